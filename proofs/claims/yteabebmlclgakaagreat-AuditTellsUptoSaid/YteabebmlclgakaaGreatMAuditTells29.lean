/- MAuditTells29: Aud7, Shelf4, Shelf5, Shelf6, Shelf7, Shelf8. -/
import Derived.Test.YteabebmlclgakaaGreatMAuditTells28
import Derived.Test.YteabebmlclgakaaGreatMAuditTells22
import Derived.Test.YteabebmlclgakaaGreatMAuditTells11
import Derived.Laws.OwnMore
import Derived.Test.YteabebmlclgakaaGreatMAuditTells13
set_option linter.unusedSimpArgs false
set_option linter.unusedVariables false
/- Aud7: package audit: the ten rules, and which a state breaks. Of states that are few. -/
namespace Go.Proofs.YteabebmlclgakaaGreat
open Go.RowKit
set_option maxRecDepth 100000
set_option maxHeartbeats 4000000
abbrev fnV (f:Nat):Value:= .func (.func f) #[] #[]
def namesL:List (List UInt8):= [[99,111,110,102,105,103], [99,104,97,105,110], [104,97,108,116,101,100], [115,101,115,115,105,111,110,115], [98,108,111,98,115], [106,111,98,115], [111,112,101,110], [98,114,101,97,99,104], [109,105,110,101,100], [100,117,101]]
abbrev ruleC:List Value:=str [99,111,110,102,105,103]::fnV 141::str [99,104,97,105,110]::fnV 142::str [104,97,108,116,101,100]::fnV 143::str [115,101,115,115,105,111,110,115]::fnV 144::str [98,108,111,98,115]::fnV 145::str [106,111,98,115]::fnV 146::str [111,112,101,110]::fnV 147::str [98,114,101,97,99,104]::fnV 148::str [109,105,110,101,100]::fnV 149::str [100,117,101]::fnV 150:: []
theorem arules_any (w0:World):Calls Tryz.prog 83 #[] w0 fun e w'=>e= .returned (.agg ruleC.toArray)∧Chg N0 w0 w':=by
 have hp:=Hp.start (S:=N0) w0
 refine calls_x (args:= []) tabOk Tryz.func83 Tryz.ntmps83 Tryz.results83 rfl (Nat.le_of_ble_eq_true rfl) ?_
 ((conv=>whnf);repeat' ((first|((with_reducible refine cn_id ?_);(refine cn rfl ?_))|((with_reducible refine ldn_id ?_);(apply lda_hs hp;(focus repeat' constructor);exact rfl))|((with_reducible refine al_id ?_);(refine al_cel hp ?_;clear hp;intro bb w hp))|((with_reducible refine st_id ?_);(apply sta_hs hp;(focus repeat' constructor);exact rfl;exact rfl;clear hp;intro w hp;(try dsimp only [List.set] at hp)))|((with_reducible refine gen_id ?_);first|((refine gen_build (t:=136) (out:=ruleC) rfl (by kernel_rfl) ?_))|(apply gen_build;exact rfl;exact rfl)))<;>(conv=>whnf)))
 exact ps_val (v':= .agg ruleC.toArray) rfl ⟨rfl,hp.chg⟩
theorem gen_rule (k:Nat) {a b:Value} {ρ:Operand→Value} {o:Oper} {w:World} {g:Value→World→Prop} {x i:Operand} (ho:o.op= .index 136 x i) (hx:ρ x= .agg ruleC.toArray) (hi:ρ i=i64 k) (h:∀w,(Instr.index 136 (.agg ruleC.toArray) (i64 k)).run Tryz.prog w= .ok (.agg #[a,b]) w) (hk:g (.agg #[a,b]) w):Gen Tryz.prog ρ o w g:=
 gen_v (by simp only [execOp,ho,hx,hi,Sem.run_bind,h w,Result.andThen_ok,Sem.run_pure]) hk
def ruleA (x:Sta):List Bool:= [soundC x.cfg,chS x.cfg.dep x.ht x.win.l,haltE x.halt,sesS x.next x.cfg.ses x.ses.l,blobS x.ses.l (x.blobs.l.map Blob.p),jobS x.ht x.jobs.l,x.jobs.l.all (opnJ x),x.jobs.l.all (brcJ x),x.jobs.l.all (mndJ x),dueS x]
def brkL (l:List Bool) (n:Nat):List Int:=((List.range n).filter fun k:Nat=> !(l.getD k true)).map fun k:Nat=>(k:Int)+1
theorem brkL_t {l:List Bool} {n:Nat} (h:l.getD n true=true):brkL l (n+1)=brkL l n:=by
 unfold brkL
 rw [List.range_succ,List.filter_append,List.filter_cons_of_neg (by rw [h];simp),List.filter_nil,List.append_nil]
theorem brkL_f {l:List Bool} {n:Nat} (h:l.getD n true=false):brkL l (n+1)=brkL l n++ [(n:Int)+1]:=by
 unfold brkL
 rw [List.range_succ,List.filter_append,List.filter_cons_of_pos (by rw [h];rfl),List.filter_nil,List.map_append]
 rfl
theorem brkL_len (l:List Bool) (n:Nat):(brkL l n).length≤n:=by
 unfold brkL
 rw [List.length_map]
 exact Nat.le_trans (List.length_filter_le _ _) (Nat.le_of_eq List.length_range)
theorem brkL_mem {l:List Bool} {n:Nat} {v:Int} (h:v∈brkL l n):1≤v∧v≤n:=by
 unfold brkL at h
 obtain ⟨k,hk,rfl⟩:=List.mem_map.1 h
 have:=List.mem_range.1 (List.mem_filter.1 hk).1
 omega
def brokenS (x:Sta):List Int:=brkL (ruleA x) 10
abbrev iL (v:Int):List Value:= [i64 v]
theorem el_int:ElT Tryz.prog 76 3 1 8:=elt_of (z:=i64 0) Tryz.underlying76 (by kernel_rfl) rfl (by omega)
theorem int_one {l:List Int}:∀x∈l,∀u∈iL x,u.oneCell'=true:=fun x _ u hu=>List.all_eq_true.1 (show (iL x).all Value.oneCell'=true from rfl) u hu
theorem abroken_any {B:Nat} {w0:World} {x:Sta} (hs:StaAt B w0 x) (hBw:B≤w0.heap.size) (hf:FewI x) (hlv:∀j∈x.jobs.l, -9223372036854775808≤j.live∧j.live≤9223372036854775807) (hdep: -9223372036854775808≤x.cfg.dep∧x.cfg.dep≤9223372036854775807):Calls Tryz.prog 27 #[x.v] w0 fun e w'=>∃r:Sl Int,r.l=brokenS x∧e= .returned r.v∧Made (rowR 3 1 iL r) w0 w':=by
 have hp:=Hp.start (S:=N0) w0
 have hB:∀b,N0 b→B≤b:=fun _ hh=>hh.elim
 have us:=Tryz.underlying76
 obtain ⟨q0,h0⟩:∃q,soundC x.cfg=q:=⟨_,rfl⟩
 obtain ⟨q1,h1⟩:∃q,chS x.cfg.dep x.ht x.win.l=q:=⟨_,rfl⟩
 obtain ⟨q2,h2⟩:∃q,haltE x.halt=q:=⟨_,rfl⟩
 obtain ⟨q3,h3⟩:∃q,sesS x.next x.cfg.ses x.ses.l=q:=⟨_,rfl⟩
 obtain ⟨q4,h4⟩:∃q,blobS x.ses.l (x.blobs.l.map Blob.p)=q:=⟨_,rfl⟩
 obtain ⟨q5,h5⟩:∃q,jobS x.ht x.jobs.l=q:=⟨_,rfl⟩
 obtain ⟨q6,h6⟩:∃q,x.jobs.l.all (opnJ x)=q:=⟨_,rfl⟩
 obtain ⟨q7,h7⟩:∃q,x.jobs.l.all (brcJ x)=q:=⟨_,rfl⟩
 obtain ⟨q8,h8⟩:∃q,x.jobs.l.all (mndJ x)=q:=⟨_,rfl⟩
 obtain ⟨q9,h9⟩:∃q,dueS x=q:=⟨_,rfl⟩
 have c0:∀{w:World},Chg N0 w0 w→Calls Tryz.prog 141 #[x.v] w fun e w'=>e= .returned (.bool q0)∧Chg N0 w w':=fun {w} hc=>by rw [←h0];exact acfg_any _ x
 have c1:∀{w:World},Chg N0 w0 w→Calls Tryz.prog 142 #[x.v] w fun e w'=>e= .returned (.bool q1)∧Chg N0 w w':=fun {w} hc=>by rw [←h1];exact alink_any (hs.keep hc hB)
 have c2:∀{w:World},Chg N0 w0 w→Calls Tryz.prog 143 #[x.v] w fun e w'=>e= .returned (.bool q2)∧Chg N0 w w':=fun {w} hc=>by rw [←h2];exact ahalt_any x
 have c3:∀{w:World},Chg N0 w0 w→Calls Tryz.prog 144 #[x.v] w fun e w'=>e= .returned (.bool q3)∧Chg N0 w w':=fun {w} hc=>by rw [←h3];exact asess_any (hs.keep hc hB) (Nat.le_trans hBw hc.size) hf
 have c4:∀{w:World},Chg N0 w0 w→Calls Tryz.prog 145 #[x.v] w fun e w'=>e= .returned (.bool q4)∧Chg N0 w w':=fun {w} hc=>by rw [←h4];exact ablobs_any (hs.keep hc hB) hf
 have c5:∀{w:World},Chg N0 w0 w→Calls Tryz.prog 146 #[x.v] w fun e w'=>e= .returned (.bool q5)∧Chg N0 w w':=fun {w} hc=>by rw [←h5];exact ajobs_any (hs.keep hc hB) (Nat.le_trans hBw hc.size) hf hlv
 have c6:∀{w:World},Chg N0 w0 w→Calls Tryz.prog 147 #[x.v] w fun e w'=>e= .returned (.bool q6)∧Chg N0 w w':=fun {w} hc=>by rw [←h6];exact aopen_any (hs.keep hc hB) (Nat.le_trans hBw hc.size) hf
 have c7:∀{w:World},Chg N0 w0 w→Calls Tryz.prog 148 #[x.v] w fun e w'=>e= .returned (.bool q7)∧Chg N0 w w':=fun {w} hc=>by rw [←h7];exact abreach_any (hs.keep hc hB) (Nat.le_trans hBw hc.size) hf
 have c8:∀{w:World},Chg N0 w0 w→Calls Tryz.prog 149 #[x.v] w fun e w'=>e= .returned (.bool q8)∧Chg N0 w w':=fun {w} hc=>by rw [←h8];exact amined_any (hs.keep hc hB) (Nat.le_trans hBw hc.size) hf
 have c9:∀{w:World},Chg N0 w0 w→Calls Tryz.prog 150 #[x.v] w fun e w'=>e= .returned (.bool q9)∧Chg N0 w w':=fun {w} hc=>by rw [←h9];exact adue_any (hs.keep hc hB) hf hdep
 have hA:ruleA x= [q0,q1,q2,q3,q4,q5,q6,q7,q8,q9]:=by unfold ruleA;rw [h0,h1,h2,h3,h4,h5,h6,h7,h8,h9]
 unfold brokenS
 rw [hA]
 clear hA h0 h1 h2 h3 h4 h5 h6 h7 h8 h9
 obtain ⟨Q,hQ⟩:∃Q,Q= [q0,q1,q2,q3,q4,q5,q6,q7,q8,q9]:=⟨_,rfl⟩
 rw [←hQ]
 refine calls_x (args:= [_]) tabOk Tryz.func27 Tryz.ntmps27 Tryz.results27 rfl (Nat.le_of_ble_eq_true rfl) ?_
 ((conv=>whnf);repeat' ((first|((with_reducible refine al_id ?_);(refine al_cel hp ?_;clear hp;intro bb w hp))|((with_reducible refine cl_id ?_);((refine cl_eq ((arules_any _)) rfl rfl ?_;rintro e w ⟨rfl,hcc⟩;replace hp:=hp.call0 hcc;refine ⟨_,rfl,?_⟩))))<;>(conv=>whnf)))
 obtain ⟨b1,hb1⟩:∃x,x=bb:=⟨_,rfl⟩
 subst hb1
 replace hp:=hp.nilRow 3 1 iL
 refine lp_inv (α:=Nat×Sl Int) (fun a=> [(1,ptr b1),(3,a.2.v),(6, .agg ruleC.toArray),(7,i64 a.1)]) (fun a w=>a.1≤10∧a.2.l=brkL Q a.1∧Hp N0 w0 w [rowR 3 1 iL a.2,cel b1 31 x.c.toArray]) (fun a=>10 - a.1) (0,Sl.nil) (by (repeat' (first|exact trivial|(refine ⟨rfl,?_⟩)))) ⟨by omega,by simp [brkL,Sl.nil],hp⟩ ?_
 clear hp
 rintro ⟨i,r⟩ e0 w ⟨hi,hr,hp⟩
 dsimp only at hi hr hp ⊢
 have hrl:r.l.length≤10:=by rw [hr];exact Nat.le_trans (brkL_len _ _) hi
 match i,hi,hr with
 |0,hi,hr=>
  cases q0 with
  |true=>
   have hn:=brkL_t (l:=Q) (n:=0) (by rw [hQ];rfl)
   ((conv=>whnf);repeat' ((first|((with_reducible refine br_id ?_);first|(with_reducible refine br_t ?_)|(with_reducible refine br_not ?_)|((with_reducible refine br_dec (fun hx=>?_) (fun hx=>?_))<;>(try (exfalso;first|omega|contradiction))))|((with_reducible refine ar_id ?_);(refine ar_i64 (by omega) ?_))|((with_reducible refine cn_id ?_);(refine cn rfl ?_))|((with_reducible refine ld_id ?_);(apply ld_hs hp;(focus repeat' constructor);exact rfl))|((with_reducible refine ldn_id ?_);(apply lda_hs hp;(focus repeat' constructor);exact rfl))|((with_reducible refine al_id ?_);(refine al_cel hp ?_;clear hp;intro bb w hp))|((with_reducible refine st_id ?_);(apply sta_hs hp;(focus repeat' constructor);exact rfl;exact rfl;clear hp;intro w hp;(try dsimp only [List.set] at hp)))|((with_reducible refine gen_id ?_);((refine gen_rule 0 (a:=str [99,111,110,102,105,103]) (b:=fnV 141) rfl rfl rfl (fun w=>by kernel_rfl) ?_)))|((with_reducible refine cl_id ?_);((refine cl_eq ((c0 hp.chg)) rfl rfl ?_;rintro e w ⟨rfl,hcc⟩;replace hp:=hp.call0 hcc;refine ⟨_,rfl,?_⟩))))<;>(conv=>whnf)))
   exact lp_next (1,r) (by show 10 - 1 < 10 - 0;omega) (by (repeat' (first|exact trivial|(refine ⟨rfl,?_⟩)))) ⟨by show 1≤10;omega,by show r.l=brkL Q 1;rw [hn];exact hr,(hp.pick (rs':= [_,_]) [1,2] (by decide) rfl)⟩
  |false=>
   have hn:=brkL_f (l:=Q) (n:=0) (by rw [hQ];rfl)
   ((conv=>whnf);repeat' ((first|((with_reducible refine br_id ?_);first|(with_reducible refine br_f ?_)|(with_reducible refine br_not ?_)|((with_reducible refine br_dec (fun hx=>?_) (fun hx=>?_))<;>(try (exfalso;first|omega|contradiction))))|((with_reducible refine ar_id ?_);(refine ar_i64 (by omega) ?_))|((with_reducible refine cn_id ?_);(refine cn rfl ?_))|((with_reducible refine ld_id ?_);(apply ld_hs hp;(focus repeat' constructor);exact rfl))|((with_reducible refine ldn_id ?_);(apply lda_hs hp;(focus repeat' constructor);exact rfl))|((with_reducible refine al_id ?_);(refine al_cel hp ?_;clear hp;intro bb w hp))|((with_reducible refine st_id ?_);(apply sta_hs hp;(focus repeat' constructor);exact rfl;exact rfl;clear hp;intro w hp;(try dsimp only [List.set] at hp)))|((with_reducible refine gen_id ?_);first|((refine gen_rule 0 (a:=str [99,111,110,102,105,103]) (b:=fnV 141) rfl rfl rfl (fun w=>by kernel_rfl) ?_))|((refine gen_bs rfl hp el_int iL [1] [i64 1] rfl rfl rfl (fun _ hh=>by simp at hh;subst hh;rfl) (by omega) ?_);clear hp;intro br w hp)|((refine gen_app (s:=r) rfl hp 2 rfl el_int rfl ⟨some ⟨br,0,none⟩,1, [1]⟩ rfl (hp.row (j:=0) rfl) (fun _ _=>rfl) int_one (by simp only [List.length_cons,List.length_nil];omega) (by simp only [maxLen,List.length_cons,List.length_nil];omega) ?_);clear hp;intro A2 c2 w hp;dsimp only [List.set] at hp))|((with_reducible refine cl_id ?_);((refine cl_eq ((c0 hp.chg)) rfl rfl ?_;rintro e w ⟨rfl,hcc⟩;replace hp:=hp.call0 hcc;refine ⟨_,rfl,?_⟩))))<;>(conv=>whnf)))
   exact lp_next (1,⟨A2,c2,r.l++ [1]⟩) (by show 10 - 1 < 10 - 0;omega) (by (repeat' (first|exact trivial|(refine ⟨rfl,?_⟩)))) ⟨by show 1≤10;omega,by show r.l++ [1]=brkL Q 1;rw [hn,hr];rfl,(hp.pick (rs':= [_,_]) [2,3] (by decide) rfl)⟩
 |1,hi,hr=>
  cases q1 with
  |true=>
   have hn:=brkL_t (l:=Q) (n:=1) (by rw [hQ];rfl)
   ((conv=>whnf);repeat' ((first|((with_reducible refine br_id ?_);first|(with_reducible refine br_t ?_)|(with_reducible refine br_not ?_)|((with_reducible refine br_dec (fun hx=>?_) (fun hx=>?_))<;>(try (exfalso;first|omega|contradiction))))|((with_reducible refine ar_id ?_);(refine ar_i64 (by omega) ?_))|((with_reducible refine cn_id ?_);(refine cn rfl ?_))|((with_reducible refine ld_id ?_);(apply ld_hs hp;(focus repeat' constructor);exact rfl))|((with_reducible refine ldn_id ?_);(apply lda_hs hp;(focus repeat' constructor);exact rfl))|((with_reducible refine al_id ?_);(refine al_cel hp ?_;clear hp;intro bb w hp))|((with_reducible refine st_id ?_);(apply sta_hs hp;(focus repeat' constructor);exact rfl;exact rfl;clear hp;intro w hp;(try dsimp only [List.set] at hp)))|((with_reducible refine gen_id ?_);((refine gen_rule 1 (a:=str [99,104,97,105,110]) (b:=fnV 142) rfl rfl rfl (fun w=>by kernel_rfl) ?_)))|((with_reducible refine cl_id ?_);((refine cl_eq ((c1 hp.chg)) rfl rfl ?_;rintro e w ⟨rfl,hcc⟩;replace hp:=hp.call0 hcc;refine ⟨_,rfl,?_⟩))))<;>(conv=>whnf)))
   exact lp_next (2,r) (by show 10 - 2 < 10 - 1;omega) (by (repeat' (first|exact trivial|(refine ⟨rfl,?_⟩)))) ⟨by show 2≤10;omega,by show r.l=brkL Q 2;rw [hn];exact hr,(hp.pick (rs':= [_,_]) [1,2] (by decide) rfl)⟩
  |false=>
   have hn:=brkL_f (l:=Q) (n:=1) (by rw [hQ];rfl)
   ((conv=>whnf);repeat' ((first|((with_reducible refine br_id ?_);first|(with_reducible refine br_f ?_)|(with_reducible refine br_not ?_)|((with_reducible refine br_dec (fun hx=>?_) (fun hx=>?_))<;>(try (exfalso;first|omega|contradiction))))|((with_reducible refine ar_id ?_);(refine ar_i64 (by omega) ?_))|((with_reducible refine cn_id ?_);(refine cn rfl ?_))|((with_reducible refine ld_id ?_);(apply ld_hs hp;(focus repeat' constructor);exact rfl))|((with_reducible refine ldn_id ?_);(apply lda_hs hp;(focus repeat' constructor);exact rfl))|((with_reducible refine al_id ?_);(refine al_cel hp ?_;clear hp;intro bb w hp))|((with_reducible refine st_id ?_);(apply sta_hs hp;(focus repeat' constructor);exact rfl;exact rfl;clear hp;intro w hp;(try dsimp only [List.set] at hp)))|((with_reducible refine gen_id ?_);first|((refine gen_rule 1 (a:=str [99,104,97,105,110]) (b:=fnV 142) rfl rfl rfl (fun w=>by kernel_rfl) ?_))|((refine gen_bs rfl hp el_int iL [2] [i64 2] rfl rfl rfl (fun _ hh=>by simp at hh;subst hh;rfl) (by omega) ?_);clear hp;intro br w hp)|((refine gen_app (s:=r) rfl hp 2 rfl el_int rfl ⟨some ⟨br,0,none⟩,1, [2]⟩ rfl (hp.row (j:=0) rfl) (fun _ _=>rfl) int_one (by simp only [List.length_cons,List.length_nil];omega) (by simp only [maxLen,List.length_cons,List.length_nil];omega) ?_);clear hp;intro A2 c2 w hp;dsimp only [List.set] at hp))|((with_reducible refine cl_id ?_);((refine cl_eq ((c1 hp.chg)) rfl rfl ?_;rintro e w ⟨rfl,hcc⟩;replace hp:=hp.call0 hcc;refine ⟨_,rfl,?_⟩))))<;>(conv=>whnf)))
   exact lp_next (2,⟨A2,c2,r.l++ [2]⟩) (by show 10 - 2 < 10 - 1;omega) (by (repeat' (first|exact trivial|(refine ⟨rfl,?_⟩)))) ⟨by show 2≤10;omega,by show r.l++ [2]=brkL Q 2;rw [hn,hr];rfl,(hp.pick (rs':= [_,_]) [2,3] (by decide) rfl)⟩
 |2,hi,hr=>
  cases q2 with
  |true=>
   have hn:=brkL_t (l:=Q) (n:=2) (by rw [hQ];rfl)
   ((conv=>whnf);repeat' ((first|((with_reducible refine br_id ?_);first|(with_reducible refine br_t ?_)|(with_reducible refine br_not ?_)|((with_reducible refine br_dec (fun hx=>?_) (fun hx=>?_))<;>(try (exfalso;first|omega|contradiction))))|((with_reducible refine ar_id ?_);(refine ar_i64 (by omega) ?_))|((with_reducible refine cn_id ?_);(refine cn rfl ?_))|((with_reducible refine ld_id ?_);(apply ld_hs hp;(focus repeat' constructor);exact rfl))|((with_reducible refine ldn_id ?_);(apply lda_hs hp;(focus repeat' constructor);exact rfl))|((with_reducible refine al_id ?_);(refine al_cel hp ?_;clear hp;intro bb w hp))|((with_reducible refine st_id ?_);(apply sta_hs hp;(focus repeat' constructor);exact rfl;exact rfl;clear hp;intro w hp;(try dsimp only [List.set] at hp)))|((with_reducible refine gen_id ?_);((refine gen_rule 2 (a:=str [104,97,108,116,101,100]) (b:=fnV 143) rfl rfl rfl (fun w=>by kernel_rfl) ?_)))|((with_reducible refine cl_id ?_);((refine cl_eq ((c2 hp.chg)) rfl rfl ?_;rintro e w ⟨rfl,hcc⟩;replace hp:=hp.call0 hcc;refine ⟨_,rfl,?_⟩))))<;>(conv=>whnf)))
   exact lp_next (3,r) (by show 10 - 3 < 10 - 2;omega) (by (repeat' (first|exact trivial|(refine ⟨rfl,?_⟩)))) ⟨by show 3≤10;omega,by show r.l=brkL Q 3;rw [hn];exact hr,(hp.pick (rs':= [_,_]) [1,2] (by decide) rfl)⟩
  |false=>
   have hn:=brkL_f (l:=Q) (n:=2) (by rw [hQ];rfl)
   ((conv=>whnf);repeat' ((first|((with_reducible refine br_id ?_);first|(with_reducible refine br_f ?_)|(with_reducible refine br_not ?_)|((with_reducible refine br_dec (fun hx=>?_) (fun hx=>?_))<;>(try (exfalso;first|omega|contradiction))))|((with_reducible refine ar_id ?_);(refine ar_i64 (by omega) ?_))|((with_reducible refine cn_id ?_);(refine cn rfl ?_))|((with_reducible refine ld_id ?_);(apply ld_hs hp;(focus repeat' constructor);exact rfl))|((with_reducible refine ldn_id ?_);(apply lda_hs hp;(focus repeat' constructor);exact rfl))|((with_reducible refine al_id ?_);(refine al_cel hp ?_;clear hp;intro bb w hp))|((with_reducible refine st_id ?_);(apply sta_hs hp;(focus repeat' constructor);exact rfl;exact rfl;clear hp;intro w hp;(try dsimp only [List.set] at hp)))|((with_reducible refine gen_id ?_);first|((refine gen_rule 2 (a:=str [104,97,108,116,101,100]) (b:=fnV 143) rfl rfl rfl (fun w=>by kernel_rfl) ?_))|((refine gen_bs rfl hp el_int iL [3] [i64 3] rfl rfl rfl (fun _ hh=>by simp at hh;subst hh;rfl) (by omega) ?_);clear hp;intro br w hp)|((refine gen_app (s:=r) rfl hp 2 rfl el_int rfl ⟨some ⟨br,0,none⟩,1, [3]⟩ rfl (hp.row (j:=0) rfl) (fun _ _=>rfl) int_one (by simp only [List.length_cons,List.length_nil];omega) (by simp only [maxLen,List.length_cons,List.length_nil];omega) ?_);clear hp;intro A2 c2 w hp;dsimp only [List.set] at hp))|((with_reducible refine cl_id ?_);((refine cl_eq ((c2 hp.chg)) rfl rfl ?_;rintro e w ⟨rfl,hcc⟩;replace hp:=hp.call0 hcc;refine ⟨_,rfl,?_⟩))))<;>(conv=>whnf)))
   exact lp_next (3,⟨A2,c2,r.l++ [3]⟩) (by show 10 - 3 < 10 - 2;omega) (by (repeat' (first|exact trivial|(refine ⟨rfl,?_⟩)))) ⟨by show 3≤10;omega,by show r.l++ [3]=brkL Q 3;rw [hn,hr];rfl,(hp.pick (rs':= [_,_]) [2,3] (by decide) rfl)⟩
 |3,hi,hr=>
  cases q3 with
  |true=>
   have hn:=brkL_t (l:=Q) (n:=3) (by rw [hQ];rfl)
   ((conv=>whnf);repeat' ((first|((with_reducible refine br_id ?_);first|(with_reducible refine br_t ?_)|(with_reducible refine br_not ?_)|((with_reducible refine br_dec (fun hx=>?_) (fun hx=>?_))<;>(try (exfalso;first|omega|contradiction))))|((with_reducible refine ar_id ?_);(refine ar_i64 (by omega) ?_))|((with_reducible refine cn_id ?_);(refine cn rfl ?_))|((with_reducible refine ld_id ?_);(apply ld_hs hp;(focus repeat' constructor);exact rfl))|((with_reducible refine ldn_id ?_);(apply lda_hs hp;(focus repeat' constructor);exact rfl))|((with_reducible refine al_id ?_);(refine al_cel hp ?_;clear hp;intro bb w hp))|((with_reducible refine st_id ?_);(apply sta_hs hp;(focus repeat' constructor);exact rfl;exact rfl;clear hp;intro w hp;(try dsimp only [List.set] at hp)))|((with_reducible refine gen_id ?_);((refine gen_rule 3 (a:=str [115,101,115,115,105,111,110,115]) (b:=fnV 144) rfl rfl rfl (fun w=>by kernel_rfl) ?_)))|((with_reducible refine cl_id ?_);((refine cl_eq ((c3 hp.chg)) rfl rfl ?_;rintro e w ⟨rfl,hcc⟩;replace hp:=hp.call0 hcc;refine ⟨_,rfl,?_⟩))))<;>(conv=>whnf)))
   exact lp_next (4,r) (by show 10 - 4 < 10 - 3;omega) (by (repeat' (first|exact trivial|(refine ⟨rfl,?_⟩)))) ⟨by show 4≤10;omega,by show r.l=brkL Q 4;rw [hn];exact hr,(hp.pick (rs':= [_,_]) [1,2] (by decide) rfl)⟩
  |false=>
   have hn:=brkL_f (l:=Q) (n:=3) (by rw [hQ];rfl)
   ((conv=>whnf);repeat' ((first|((with_reducible refine br_id ?_);first|(with_reducible refine br_f ?_)|(with_reducible refine br_not ?_)|((with_reducible refine br_dec (fun hx=>?_) (fun hx=>?_))<;>(try (exfalso;first|omega|contradiction))))|((with_reducible refine ar_id ?_);(refine ar_i64 (by omega) ?_))|((with_reducible refine cn_id ?_);(refine cn rfl ?_))|((with_reducible refine ld_id ?_);(apply ld_hs hp;(focus repeat' constructor);exact rfl))|((with_reducible refine ldn_id ?_);(apply lda_hs hp;(focus repeat' constructor);exact rfl))|((with_reducible refine al_id ?_);(refine al_cel hp ?_;clear hp;intro bb w hp))|((with_reducible refine st_id ?_);(apply sta_hs hp;(focus repeat' constructor);exact rfl;exact rfl;clear hp;intro w hp;(try dsimp only [List.set] at hp)))|((with_reducible refine gen_id ?_);first|((refine gen_rule 3 (a:=str [115,101,115,115,105,111,110,115]) (b:=fnV 144) rfl rfl rfl (fun w=>by kernel_rfl) ?_))|((refine gen_bs rfl hp el_int iL [4] [i64 4] rfl rfl rfl (fun _ hh=>by simp at hh;subst hh;rfl) (by omega) ?_);clear hp;intro br w hp)|((refine gen_app (s:=r) rfl hp 2 rfl el_int rfl ⟨some ⟨br,0,none⟩,1, [4]⟩ rfl (hp.row (j:=0) rfl) (fun _ _=>rfl) int_one (by simp only [List.length_cons,List.length_nil];omega) (by simp only [maxLen,List.length_cons,List.length_nil];omega) ?_);clear hp;intro A2 c2 w hp;dsimp only [List.set] at hp))|((with_reducible refine cl_id ?_);((refine cl_eq ((c3 hp.chg)) rfl rfl ?_;rintro e w ⟨rfl,hcc⟩;replace hp:=hp.call0 hcc;refine ⟨_,rfl,?_⟩))))<;>(conv=>whnf)))
   exact lp_next (4,⟨A2,c2,r.l++ [4]⟩) (by show 10 - 4 < 10 - 3;omega) (by (repeat' (first|exact trivial|(refine ⟨rfl,?_⟩)))) ⟨by show 4≤10;omega,by show r.l++ [4]=brkL Q 4;rw [hn,hr];rfl,(hp.pick (rs':= [_,_]) [2,3] (by decide) rfl)⟩
 |4,hi,hr=>
  cases q4 with
  |true=>
   have hn:=brkL_t (l:=Q) (n:=4) (by rw [hQ];rfl)
   ((conv=>whnf);repeat' ((first|((with_reducible refine br_id ?_);first|(with_reducible refine br_t ?_)|(with_reducible refine br_not ?_)|((with_reducible refine br_dec (fun hx=>?_) (fun hx=>?_))<;>(try (exfalso;first|omega|contradiction))))|((with_reducible refine ar_id ?_);(refine ar_i64 (by omega) ?_))|((with_reducible refine cn_id ?_);(refine cn rfl ?_))|((with_reducible refine ld_id ?_);(apply ld_hs hp;(focus repeat' constructor);exact rfl))|((with_reducible refine ldn_id ?_);(apply lda_hs hp;(focus repeat' constructor);exact rfl))|((with_reducible refine al_id ?_);(refine al_cel hp ?_;clear hp;intro bb w hp))|((with_reducible refine st_id ?_);(apply sta_hs hp;(focus repeat' constructor);exact rfl;exact rfl;clear hp;intro w hp;(try dsimp only [List.set] at hp)))|((with_reducible refine gen_id ?_);((refine gen_rule 4 (a:=str [98,108,111,98,115]) (b:=fnV 145) rfl rfl rfl (fun w=>by kernel_rfl) ?_)))|((with_reducible refine cl_id ?_);((refine cl_eq ((c4 hp.chg)) rfl rfl ?_;rintro e w ⟨rfl,hcc⟩;replace hp:=hp.call0 hcc;refine ⟨_,rfl,?_⟩))))<;>(conv=>whnf)))
   exact lp_next (5,r) (by show 10 - 5 < 10 - 4;omega) (by (repeat' (first|exact trivial|(refine ⟨rfl,?_⟩)))) ⟨by show 5≤10;omega,by show r.l=brkL Q 5;rw [hn];exact hr,(hp.pick (rs':= [_,_]) [1,2] (by decide) rfl)⟩
  |false=>
   have hn:=brkL_f (l:=Q) (n:=4) (by rw [hQ];rfl)
   ((conv=>whnf);repeat' ((first|((with_reducible refine br_id ?_);first|(with_reducible refine br_f ?_)|(with_reducible refine br_not ?_)|((with_reducible refine br_dec (fun hx=>?_) (fun hx=>?_))<;>(try (exfalso;first|omega|contradiction))))|((with_reducible refine ar_id ?_);(refine ar_i64 (by omega) ?_))|((with_reducible refine cn_id ?_);(refine cn rfl ?_))|((with_reducible refine ld_id ?_);(apply ld_hs hp;(focus repeat' constructor);exact rfl))|((with_reducible refine ldn_id ?_);(apply lda_hs hp;(focus repeat' constructor);exact rfl))|((with_reducible refine al_id ?_);(refine al_cel hp ?_;clear hp;intro bb w hp))|((with_reducible refine st_id ?_);(apply sta_hs hp;(focus repeat' constructor);exact rfl;exact rfl;clear hp;intro w hp;(try dsimp only [List.set] at hp)))|((with_reducible refine gen_id ?_);first|((refine gen_rule 4 (a:=str [98,108,111,98,115]) (b:=fnV 145) rfl rfl rfl (fun w=>by kernel_rfl) ?_))|((refine gen_bs rfl hp el_int iL [5] [i64 5] rfl rfl rfl (fun _ hh=>by simp at hh;subst hh;rfl) (by omega) ?_);clear hp;intro br w hp)|((refine gen_app (s:=r) rfl hp 2 rfl el_int rfl ⟨some ⟨br,0,none⟩,1, [5]⟩ rfl (hp.row (j:=0) rfl) (fun _ _=>rfl) int_one (by simp only [List.length_cons,List.length_nil];omega) (by simp only [maxLen,List.length_cons,List.length_nil];omega) ?_);clear hp;intro A2 c2 w hp;dsimp only [List.set] at hp))|((with_reducible refine cl_id ?_);((refine cl_eq ((c4 hp.chg)) rfl rfl ?_;rintro e w ⟨rfl,hcc⟩;replace hp:=hp.call0 hcc;refine ⟨_,rfl,?_⟩))))<;>(conv=>whnf)))
   exact lp_next (5,⟨A2,c2,r.l++ [5]⟩) (by show 10 - 5 < 10 - 4;omega) (by (repeat' (first|exact trivial|(refine ⟨rfl,?_⟩)))) ⟨by show 5≤10;omega,by show r.l++ [5]=brkL Q 5;rw [hn,hr];rfl,(hp.pick (rs':= [_,_]) [2,3] (by decide) rfl)⟩
 |5,hi,hr=>
  cases q5 with
  |true=>
   have hn:=brkL_t (l:=Q) (n:=5) (by rw [hQ];rfl)
   ((conv=>whnf);repeat' ((first|((with_reducible refine br_id ?_);first|(with_reducible refine br_t ?_)|(with_reducible refine br_not ?_)|((with_reducible refine br_dec (fun hx=>?_) (fun hx=>?_))<;>(try (exfalso;first|omega|contradiction))))|((with_reducible refine ar_id ?_);(refine ar_i64 (by omega) ?_))|((with_reducible refine cn_id ?_);(refine cn rfl ?_))|((with_reducible refine ld_id ?_);(apply ld_hs hp;(focus repeat' constructor);exact rfl))|((with_reducible refine ldn_id ?_);(apply lda_hs hp;(focus repeat' constructor);exact rfl))|((with_reducible refine al_id ?_);(refine al_cel hp ?_;clear hp;intro bb w hp))|((with_reducible refine st_id ?_);(apply sta_hs hp;(focus repeat' constructor);exact rfl;exact rfl;clear hp;intro w hp;(try dsimp only [List.set] at hp)))|((with_reducible refine gen_id ?_);((refine gen_rule 5 (a:=str [106,111,98,115]) (b:=fnV 146) rfl rfl rfl (fun w=>by kernel_rfl) ?_)))|((with_reducible refine cl_id ?_);((refine cl_eq ((c5 hp.chg)) rfl rfl ?_;rintro e w ⟨rfl,hcc⟩;replace hp:=hp.call0 hcc;refine ⟨_,rfl,?_⟩))))<;>(conv=>whnf)))
   exact lp_next (6,r) (by show 10 - 6 < 10 - 5;omega) (by (repeat' (first|exact trivial|(refine ⟨rfl,?_⟩)))) ⟨by show 6≤10;omega,by show r.l=brkL Q 6;rw [hn];exact hr,(hp.pick (rs':= [_,_]) [1,2] (by decide) rfl)⟩
  |false=>
   have hn:=brkL_f (l:=Q) (n:=5) (by rw [hQ];rfl)
   ((conv=>whnf);repeat' ((first|((with_reducible refine br_id ?_);first|(with_reducible refine br_f ?_)|(with_reducible refine br_not ?_)|((with_reducible refine br_dec (fun hx=>?_) (fun hx=>?_))<;>(try (exfalso;first|omega|contradiction))))|((with_reducible refine ar_id ?_);(refine ar_i64 (by omega) ?_))|((with_reducible refine cn_id ?_);(refine cn rfl ?_))|((with_reducible refine ld_id ?_);(apply ld_hs hp;(focus repeat' constructor);exact rfl))|((with_reducible refine ldn_id ?_);(apply lda_hs hp;(focus repeat' constructor);exact rfl))|((with_reducible refine al_id ?_);(refine al_cel hp ?_;clear hp;intro bb w hp))|((with_reducible refine st_id ?_);(apply sta_hs hp;(focus repeat' constructor);exact rfl;exact rfl;clear hp;intro w hp;(try dsimp only [List.set] at hp)))|((with_reducible refine gen_id ?_);first|((refine gen_rule 5 (a:=str [106,111,98,115]) (b:=fnV 146) rfl rfl rfl (fun w=>by kernel_rfl) ?_))|((refine gen_bs rfl hp el_int iL [6] [i64 6] rfl rfl rfl (fun _ hh=>by simp at hh;subst hh;rfl) (by omega) ?_);clear hp;intro br w hp)|((refine gen_app (s:=r) rfl hp 2 rfl el_int rfl ⟨some ⟨br,0,none⟩,1, [6]⟩ rfl (hp.row (j:=0) rfl) (fun _ _=>rfl) int_one (by simp only [List.length_cons,List.length_nil];omega) (by simp only [maxLen,List.length_cons,List.length_nil];omega) ?_);clear hp;intro A2 c2 w hp;dsimp only [List.set] at hp))|((with_reducible refine cl_id ?_);((refine cl_eq ((c5 hp.chg)) rfl rfl ?_;rintro e w ⟨rfl,hcc⟩;replace hp:=hp.call0 hcc;refine ⟨_,rfl,?_⟩))))<;>(conv=>whnf)))
   exact lp_next (6,⟨A2,c2,r.l++ [6]⟩) (by show 10 - 6 < 10 - 5;omega) (by (repeat' (first|exact trivial|(refine ⟨rfl,?_⟩)))) ⟨by show 6≤10;omega,by show r.l++ [6]=brkL Q 6;rw [hn,hr];rfl,(hp.pick (rs':= [_,_]) [2,3] (by decide) rfl)⟩
 |6,hi,hr=>
  cases q6 with
  |true=>
   have hn:=brkL_t (l:=Q) (n:=6) (by rw [hQ];rfl)
   ((conv=>whnf);repeat' ((first|((with_reducible refine br_id ?_);first|(with_reducible refine br_t ?_)|(with_reducible refine br_not ?_)|((with_reducible refine br_dec (fun hx=>?_) (fun hx=>?_))<;>(try (exfalso;first|omega|contradiction))))|((with_reducible refine ar_id ?_);(refine ar_i64 (by omega) ?_))|((with_reducible refine cn_id ?_);(refine cn rfl ?_))|((with_reducible refine ld_id ?_);(apply ld_hs hp;(focus repeat' constructor);exact rfl))|((with_reducible refine ldn_id ?_);(apply lda_hs hp;(focus repeat' constructor);exact rfl))|((with_reducible refine al_id ?_);(refine al_cel hp ?_;clear hp;intro bb w hp))|((with_reducible refine st_id ?_);(apply sta_hs hp;(focus repeat' constructor);exact rfl;exact rfl;clear hp;intro w hp;(try dsimp only [List.set] at hp)))|((with_reducible refine gen_id ?_);((refine gen_rule 6 (a:=str [111,112,101,110]) (b:=fnV 147) rfl rfl rfl (fun w=>by kernel_rfl) ?_)))|((with_reducible refine cl_id ?_);((refine cl_eq ((c6 hp.chg)) rfl rfl ?_;rintro e w ⟨rfl,hcc⟩;replace hp:=hp.call0 hcc;refine ⟨_,rfl,?_⟩))))<;>(conv=>whnf)))
   exact lp_next (7,r) (by show 10 - 7 < 10 - 6;omega) (by (repeat' (first|exact trivial|(refine ⟨rfl,?_⟩)))) ⟨by show 7≤10;omega,by show r.l=brkL Q 7;rw [hn];exact hr,(hp.pick (rs':= [_,_]) [1,2] (by decide) rfl)⟩
  |false=>
   have hn:=brkL_f (l:=Q) (n:=6) (by rw [hQ];rfl)
   ((conv=>whnf);repeat' ((first|((with_reducible refine br_id ?_);first|(with_reducible refine br_f ?_)|(with_reducible refine br_not ?_)|((with_reducible refine br_dec (fun hx=>?_) (fun hx=>?_))<;>(try (exfalso;first|omega|contradiction))))|((with_reducible refine ar_id ?_);(refine ar_i64 (by omega) ?_))|((with_reducible refine cn_id ?_);(refine cn rfl ?_))|((with_reducible refine ld_id ?_);(apply ld_hs hp;(focus repeat' constructor);exact rfl))|((with_reducible refine ldn_id ?_);(apply lda_hs hp;(focus repeat' constructor);exact rfl))|((with_reducible refine al_id ?_);(refine al_cel hp ?_;clear hp;intro bb w hp))|((with_reducible refine st_id ?_);(apply sta_hs hp;(focus repeat' constructor);exact rfl;exact rfl;clear hp;intro w hp;(try dsimp only [List.set] at hp)))|((with_reducible refine gen_id ?_);first|((refine gen_rule 6 (a:=str [111,112,101,110]) (b:=fnV 147) rfl rfl rfl (fun w=>by kernel_rfl) ?_))|((refine gen_bs rfl hp el_int iL [7] [i64 7] rfl rfl rfl (fun _ hh=>by simp at hh;subst hh;rfl) (by omega) ?_);clear hp;intro br w hp)|((refine gen_app (s:=r) rfl hp 2 rfl el_int rfl ⟨some ⟨br,0,none⟩,1, [7]⟩ rfl (hp.row (j:=0) rfl) (fun _ _=>rfl) int_one (by simp only [List.length_cons,List.length_nil];omega) (by simp only [maxLen,List.length_cons,List.length_nil];omega) ?_);clear hp;intro A2 c2 w hp;dsimp only [List.set] at hp))|((with_reducible refine cl_id ?_);((refine cl_eq ((c6 hp.chg)) rfl rfl ?_;rintro e w ⟨rfl,hcc⟩;replace hp:=hp.call0 hcc;refine ⟨_,rfl,?_⟩))))<;>(conv=>whnf)))
   exact lp_next (7,⟨A2,c2,r.l++ [7]⟩) (by show 10 - 7 < 10 - 6;omega) (by (repeat' (first|exact trivial|(refine ⟨rfl,?_⟩)))) ⟨by show 7≤10;omega,by show r.l++ [7]=brkL Q 7;rw [hn,hr];rfl,(hp.pick (rs':= [_,_]) [2,3] (by decide) rfl)⟩
 |7,hi,hr=>
  cases q7 with
  |true=>
   have hn:=brkL_t (l:=Q) (n:=7) (by rw [hQ];rfl)
   ((conv=>whnf);repeat' ((first|((with_reducible refine br_id ?_);first|(with_reducible refine br_t ?_)|(with_reducible refine br_not ?_)|((with_reducible refine br_dec (fun hx=>?_) (fun hx=>?_))<;>(try (exfalso;first|omega|contradiction))))|((with_reducible refine ar_id ?_);(refine ar_i64 (by omega) ?_))|((with_reducible refine cn_id ?_);(refine cn rfl ?_))|((with_reducible refine ld_id ?_);(apply ld_hs hp;(focus repeat' constructor);exact rfl))|((with_reducible refine ldn_id ?_);(apply lda_hs hp;(focus repeat' constructor);exact rfl))|((with_reducible refine al_id ?_);(refine al_cel hp ?_;clear hp;intro bb w hp))|((with_reducible refine st_id ?_);(apply sta_hs hp;(focus repeat' constructor);exact rfl;exact rfl;clear hp;intro w hp;(try dsimp only [List.set] at hp)))|((with_reducible refine gen_id ?_);((refine gen_rule 7 (a:=str [98,114,101,97,99,104]) (b:=fnV 148) rfl rfl rfl (fun w=>by kernel_rfl) ?_)))|((with_reducible refine cl_id ?_);((refine cl_eq ((c7 hp.chg)) rfl rfl ?_;rintro e w ⟨rfl,hcc⟩;replace hp:=hp.call0 hcc;refine ⟨_,rfl,?_⟩))))<;>(conv=>whnf)))
   exact lp_next (8,r) (by show 10 - 8 < 10 - 7;omega) (by (repeat' (first|exact trivial|(refine ⟨rfl,?_⟩)))) ⟨by show 8≤10;omega,by show r.l=brkL Q 8;rw [hn];exact hr,(hp.pick (rs':= [_,_]) [1,2] (by decide) rfl)⟩
  |false=>
   have hn:=brkL_f (l:=Q) (n:=7) (by rw [hQ];rfl)
   ((conv=>whnf);repeat' ((first|((with_reducible refine br_id ?_);first|(with_reducible refine br_f ?_)|(with_reducible refine br_not ?_)|((with_reducible refine br_dec (fun hx=>?_) (fun hx=>?_))<;>(try (exfalso;first|omega|contradiction))))|((with_reducible refine ar_id ?_);(refine ar_i64 (by omega) ?_))|((with_reducible refine cn_id ?_);(refine cn rfl ?_))|((with_reducible refine ld_id ?_);(apply ld_hs hp;(focus repeat' constructor);exact rfl))|((with_reducible refine ldn_id ?_);(apply lda_hs hp;(focus repeat' constructor);exact rfl))|((with_reducible refine al_id ?_);(refine al_cel hp ?_;clear hp;intro bb w hp))|((with_reducible refine st_id ?_);(apply sta_hs hp;(focus repeat' constructor);exact rfl;exact rfl;clear hp;intro w hp;(try dsimp only [List.set] at hp)))|((with_reducible refine gen_id ?_);first|((refine gen_rule 7 (a:=str [98,114,101,97,99,104]) (b:=fnV 148) rfl rfl rfl (fun w=>by kernel_rfl) ?_))|((refine gen_bs rfl hp el_int iL [8] [i64 8] rfl rfl rfl (fun _ hh=>by simp at hh;subst hh;rfl) (by omega) ?_);clear hp;intro br w hp)|((refine gen_app (s:=r) rfl hp 2 rfl el_int rfl ⟨some ⟨br,0,none⟩,1, [8]⟩ rfl (hp.row (j:=0) rfl) (fun _ _=>rfl) int_one (by simp only [List.length_cons,List.length_nil];omega) (by simp only [maxLen,List.length_cons,List.length_nil];omega) ?_);clear hp;intro A2 c2 w hp;dsimp only [List.set] at hp))|((with_reducible refine cl_id ?_);((refine cl_eq ((c7 hp.chg)) rfl rfl ?_;rintro e w ⟨rfl,hcc⟩;replace hp:=hp.call0 hcc;refine ⟨_,rfl,?_⟩))))<;>(conv=>whnf)))
   exact lp_next (8,⟨A2,c2,r.l++ [8]⟩) (by show 10 - 8 < 10 - 7;omega) (by (repeat' (first|exact trivial|(refine ⟨rfl,?_⟩)))) ⟨by show 8≤10;omega,by show r.l++ [8]=brkL Q 8;rw [hn,hr];rfl,(hp.pick (rs':= [_,_]) [2,3] (by decide) rfl)⟩
 |8,hi,hr=>
  cases q8 with
  |true=>
   have hn:=brkL_t (l:=Q) (n:=8) (by rw [hQ];rfl)
   ((conv=>whnf);repeat' ((first|((with_reducible refine br_id ?_);first|(with_reducible refine br_t ?_)|(with_reducible refine br_not ?_)|((with_reducible refine br_dec (fun hx=>?_) (fun hx=>?_))<;>(try (exfalso;first|omega|contradiction))))|((with_reducible refine ar_id ?_);(refine ar_i64 (by omega) ?_))|((with_reducible refine cn_id ?_);(refine cn rfl ?_))|((with_reducible refine ld_id ?_);(apply ld_hs hp;(focus repeat' constructor);exact rfl))|((with_reducible refine ldn_id ?_);(apply lda_hs hp;(focus repeat' constructor);exact rfl))|((with_reducible refine al_id ?_);(refine al_cel hp ?_;clear hp;intro bb w hp))|((with_reducible refine st_id ?_);(apply sta_hs hp;(focus repeat' constructor);exact rfl;exact rfl;clear hp;intro w hp;(try dsimp only [List.set] at hp)))|((with_reducible refine gen_id ?_);((refine gen_rule 8 (a:=str [109,105,110,101,100]) (b:=fnV 149) rfl rfl rfl (fun w=>by kernel_rfl) ?_)))|((with_reducible refine cl_id ?_);((refine cl_eq ((c8 hp.chg)) rfl rfl ?_;rintro e w ⟨rfl,hcc⟩;replace hp:=hp.call0 hcc;refine ⟨_,rfl,?_⟩))))<;>(conv=>whnf)))
   exact lp_next (9,r) (by show 10 - 9 < 10 - 8;omega) (by (repeat' (first|exact trivial|(refine ⟨rfl,?_⟩)))) ⟨by show 9≤10;omega,by show r.l=brkL Q 9;rw [hn];exact hr,(hp.pick (rs':= [_,_]) [1,2] (by decide) rfl)⟩
  |false=>
   have hn:=brkL_f (l:=Q) (n:=8) (by rw [hQ];rfl)
   ((conv=>whnf);repeat' ((first|((with_reducible refine br_id ?_);first|(with_reducible refine br_f ?_)|(with_reducible refine br_not ?_)|((with_reducible refine br_dec (fun hx=>?_) (fun hx=>?_))<;>(try (exfalso;first|omega|contradiction))))|((with_reducible refine ar_id ?_);(refine ar_i64 (by omega) ?_))|((with_reducible refine cn_id ?_);(refine cn rfl ?_))|((with_reducible refine ld_id ?_);(apply ld_hs hp;(focus repeat' constructor);exact rfl))|((with_reducible refine ldn_id ?_);(apply lda_hs hp;(focus repeat' constructor);exact rfl))|((with_reducible refine al_id ?_);(refine al_cel hp ?_;clear hp;intro bb w hp))|((with_reducible refine st_id ?_);(apply sta_hs hp;(focus repeat' constructor);exact rfl;exact rfl;clear hp;intro w hp;(try dsimp only [List.set] at hp)))|((with_reducible refine gen_id ?_);first|((refine gen_rule 8 (a:=str [109,105,110,101,100]) (b:=fnV 149) rfl rfl rfl (fun w=>by kernel_rfl) ?_))|((refine gen_bs rfl hp el_int iL [9] [i64 9] rfl rfl rfl (fun _ hh=>by simp at hh;subst hh;rfl) (by omega) ?_);clear hp;intro br w hp)|((refine gen_app (s:=r) rfl hp 2 rfl el_int rfl ⟨some ⟨br,0,none⟩,1, [9]⟩ rfl (hp.row (j:=0) rfl) (fun _ _=>rfl) int_one (by simp only [List.length_cons,List.length_nil];omega) (by simp only [maxLen,List.length_cons,List.length_nil];omega) ?_);clear hp;intro A2 c2 w hp;dsimp only [List.set] at hp))|((with_reducible refine cl_id ?_);((refine cl_eq ((c8 hp.chg)) rfl rfl ?_;rintro e w ⟨rfl,hcc⟩;replace hp:=hp.call0 hcc;refine ⟨_,rfl,?_⟩))))<;>(conv=>whnf)))
   exact lp_next (9,⟨A2,c2,r.l++ [9]⟩) (by show 10 - 9 < 10 - 8;omega) (by (repeat' (first|exact trivial|(refine ⟨rfl,?_⟩)))) ⟨by show 9≤10;omega,by show r.l++ [9]=brkL Q 9;rw [hn,hr];rfl,(hp.pick (rs':= [_,_]) [2,3] (by decide) rfl)⟩
 |9,hi,hr=>
  cases q9 with
  |true=>
   have hn:=brkL_t (l:=Q) (n:=9) (by rw [hQ];rfl)
   ((conv=>whnf);repeat' ((first|((with_reducible refine br_id ?_);first|(with_reducible refine br_t ?_)|(with_reducible refine br_not ?_)|((with_reducible refine br_dec (fun hx=>?_) (fun hx=>?_))<;>(try (exfalso;first|omega|contradiction))))|((with_reducible refine ar_id ?_);(refine ar_i64 (by omega) ?_))|((with_reducible refine cn_id ?_);(refine cn rfl ?_))|((with_reducible refine ld_id ?_);(apply ld_hs hp;(focus repeat' constructor);exact rfl))|((with_reducible refine ldn_id ?_);(apply lda_hs hp;(focus repeat' constructor);exact rfl))|((with_reducible refine al_id ?_);(refine al_cel hp ?_;clear hp;intro bb w hp))|((with_reducible refine st_id ?_);(apply sta_hs hp;(focus repeat' constructor);exact rfl;exact rfl;clear hp;intro w hp;(try dsimp only [List.set] at hp)))|((with_reducible refine gen_id ?_);((refine gen_rule 9 (a:=str [100,117,101]) (b:=fnV 150) rfl rfl rfl (fun w=>by kernel_rfl) ?_)))|((with_reducible refine cl_id ?_);((refine cl_eq ((c9 hp.chg)) rfl rfl ?_;rintro e w ⟨rfl,hcc⟩;replace hp:=hp.call0 hcc;refine ⟨_,rfl,?_⟩))))<;>(conv=>whnf)))
   exact lp_next (10,r) (by show 10 - 10 < 10 - 9;omega) (by (repeat' (first|exact trivial|(refine ⟨rfl,?_⟩)))) ⟨by show 10≤10;omega,by show r.l=brkL Q 10;rw [hn];exact hr,(hp.pick (rs':= [_,_]) [1,2] (by decide) rfl)⟩
  |false=>
   have hn:=brkL_f (l:=Q) (n:=9) (by rw [hQ];rfl)
   ((conv=>whnf);repeat' ((first|((with_reducible refine br_id ?_);first|(with_reducible refine br_f ?_)|(with_reducible refine br_not ?_)|((with_reducible refine br_dec (fun hx=>?_) (fun hx=>?_))<;>(try (exfalso;first|omega|contradiction))))|((with_reducible refine ar_id ?_);(refine ar_i64 (by omega) ?_))|((with_reducible refine cn_id ?_);(refine cn rfl ?_))|((with_reducible refine ld_id ?_);(apply ld_hs hp;(focus repeat' constructor);exact rfl))|((with_reducible refine ldn_id ?_);(apply lda_hs hp;(focus repeat' constructor);exact rfl))|((with_reducible refine al_id ?_);(refine al_cel hp ?_;clear hp;intro bb w hp))|((with_reducible refine st_id ?_);(apply sta_hs hp;(focus repeat' constructor);exact rfl;exact rfl;clear hp;intro w hp;(try dsimp only [List.set] at hp)))|((with_reducible refine gen_id ?_);first|((refine gen_rule 9 (a:=str [100,117,101]) (b:=fnV 150) rfl rfl rfl (fun w=>by kernel_rfl) ?_))|((refine gen_bs rfl hp el_int iL [10] [i64 10] rfl rfl rfl (fun _ hh=>by simp at hh;subst hh;rfl) (by omega) ?_);clear hp;intro br w hp)|((refine gen_app (s:=r) rfl hp 2 rfl el_int rfl ⟨some ⟨br,0,none⟩,1, [10]⟩ rfl (hp.row (j:=0) rfl) (fun _ _=>rfl) int_one (by simp only [List.length_cons,List.length_nil];omega) (by simp only [maxLen,List.length_cons,List.length_nil];omega) ?_);clear hp;intro A2 c2 w hp;dsimp only [List.set] at hp))|((with_reducible refine cl_id ?_);((refine cl_eq ((c9 hp.chg)) rfl rfl ?_;rintro e w ⟨rfl,hcc⟩;replace hp:=hp.call0 hcc;refine ⟨_,rfl,?_⟩))))<;>(conv=>whnf)))
   exact lp_next (10,⟨A2,c2,r.l++ [10]⟩) (by show 10 - 10 < 10 - 9;omega) (by (repeat' (first|exact trivial|(refine ⟨rfl,?_⟩)))) ⟨by show 10≤10;omega,by show r.l++ [10]=brkL Q 10;rw [hn,hr];rfl,(hp.pick (rs':= [_,_]) [2,3] (by decide) rfl)⟩
 |10,hi,hr=>
  ((conv=>whnf);repeat' (((with_reducible refine br_id ?_);((with_reducible refine br_dec (fun hx=>?_) (fun hx=>?_))<;>(try (exfalso;first|omega|contradiction))))<;>(conv=>whnf)))
  exact ps_of ⟨r,hr,rfl,hp.made1 (j:=0) rfl⟩
 |n+11,hi,hr=>exact absurd hi (by omega)
end Go.Proofs.YteabebmlclgakaaGreat
/- Shelf4: shelf.Get, Of, Len, Bytes. -/
namespace Go.Proofs.YteabebmlclgakaaGreat
open Go.RowKit
set_option maxRecDepth 100000
set_option maxHeartbeats 2000000
end Go.Proofs.YteabebmlclgakaaGreat
/- Shelf5: shelf.Hinted. -/
namespace Go.Proofs.YteabebmlclgakaaGreat
open Go.RowKit
set_option maxRecDepth 100000
set_option maxHeartbeats 2000000
end Go.Proofs.YteabebmlclgakaaGreat
/- Shelf6: shelf.Drop, DropAll. -/
namespace Go.Proofs.YteabebmlclgakaaGreat
open Go.RowKit
set_option maxRecDepth 100000
set_option maxHeartbeats 2000000
end Go.Proofs.YteabebmlclgakaaGreat
/- Shelf7: shelf.DropAll; the law's example. -/
namespace Go.Proofs.YteabebmlclgakaaGreat
open Go.RowKit
set_option maxRecDepth 100000
set_option maxHeartbeats 2000000
end Go.Proofs.YteabebmlclgakaaGreat
/- Shelf8: what the law ShelfFound asks: holder, Bytes, counts. -/
namespace Go.Proofs.YteabebmlclgakaaGreat
open Go.RowKit
set_option maxRecDepth 100000
set_option maxHeartbeats 2000000
theorem key_ne {x k:Key} (h:¬x=k):¬((x.ses.toNat:Int)=k.ses.toNat∧(x.seq.toNat:Int)=k.seq.toNat):=fun ⟨h1,h2⟩=>h (by
 obtain ⟨a,b⟩:=x
 obtain ⟨e,f⟩:=k
 have h3:a=e:=UInt32.toNat_inj.1 (Int.ofNat.inj h1)
 have h4:b=f:=UInt32.toNat_inj.1 (Int.ofNat.inj h2)
 rw [h3,h4])
end Go.Proofs.YteabebmlclgakaaGreat
