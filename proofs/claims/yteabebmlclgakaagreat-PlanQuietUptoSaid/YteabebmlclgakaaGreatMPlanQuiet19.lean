/- MPlanQuiet19: DelF, RAt, Idx, Blk, Blk2, Plc. -/
import Derived.Test.YteabebmlclgakaaGreatMPlanQuiet18
import Derived.Test.YteabebmlclgakaaGreatMPlanQuiet7
import Derived.Test.YteabebmlclgakaaGreatMPlanQuiet8
import Derived.Test.YteabebmlclgakaaGreatMPlanQuiet6
import Derived.Test.YteabebmlclgakaaGreatMPlanQuiet12
import Derived.Test.YteabebmlclgakaaGreatMPlanQuietsSlice
import Derived.Test.YteabebmlclgakaaGreatMPlanQuiet11
set_option linter.unusedSimpArgs false
set_option linter.unusedVariables false
/- DelF: slices.Clone, IndexFunc and DeleteFunc at plan's steps: how many are left. Of rows of at most a million. -/
namespace Go.Proofs.YteabebmlclgakaaGreat
open Go.RowKit
set_option maxRecDepth 100000
set_option maxHeartbeats 4000000
theorem eqIn_psl {P:Program} {w:World} {t e:TypeId} (d:Nat) (ht:P.underlying t=some (.slice e)) (a:Option Addr) (n c:Nat):(Op.equalIn (d+1) t (.slice a n c) (.slice none 0 0)).run P w= .ok a.isNone w:=by cases a<;>simp [Op.equalIn,run_underlying ht]
theorem gen_psnil {P:Program} {ρ:Operand→Value} {o:Oper} {w:World} {g:Value→World→Prop} {t t2 e:TypeId} {x y:Operand} (hop:o.op= .binOp .eql t x y t2) {a:Option Addr} {n c:Nat} (hx:ρ x= .slice a n c) (hy:ρ y= .slice none 0 0) (ht:P.underlying t=some (.slice e)) {q:Bool} (hq:a.isNone=q) (hk:g (.bool q) w):Gen P ρ o w g:=by
 subst hq
 refine gen_bin hop (by rw [hx,hy];simp [eqGuard]) ?_ hk
 rw [hx,hy]
 exact (run_eql_of (eqIn_psl 9999 ht a n c) (fun op=>by cases op<;>rfl)).1
theorem sclp_any {B:Nat} {w0:World} {s:Sl Stp} (h:SlAt B w0 Stp.c 39 s) (hn:s.l.length≤1000000):Calls Tryz.prog 157 #[s.v] w0 fun e w'=>∃r:Sl Stp,r.l=s.l∧e= .returned r.v∧Made (rowR 144 39 Stp.c r) w0 w':=by
 have hp:=Hp.start (S:=N0) w0
 have hB:∀b,N0 b→B≤b:=fun _ hh=>hh.elim
 have us:=Tryz.underlying141
 cases hA:s.A with
 |none=>
  have hl:s.l= []:=Classical.byContradiction fun hne=>by
   obtain ⟨b,o,h1,_⟩:=h.row hne
   rw [hA] at h1
   cases h1
  have hc:s.c=0:=h.nil hA
  have hv:s.v= .slice none 0 0:=by rw [Sl.v,hA,hl,hc];rfl
  rw [hv,hl]
  refine calls_x (args:= [_]) tabOk Tryz.func157 Tryz.ntmps157 Tryz.results157 rfl (Nat.le_of_ble_eq_true rfl) ?_
  ((conv=>whnf);repeat' ((first|((with_reducible refine br_id ?_);(with_reducible refine br_t ?_))|((with_reducible refine gen_id ?_);((refine gen_psnil rfl rfl rfl us (q:=true) rfl ?_))))<;>(conv=>whnf)))
  exact ps_val (v':= .slice none 0 0) rfl ⟨Sl.nil,rfl,rfl,(hp.nilRow 144 39 Stp.c).made1 (j:=0) rfl⟩
 |some a=>
  have hq:s.A.isNone=false:=by rw [hA];rfl
  refine calls_x (args:= [_]) tabOk Tryz.func157 Tryz.ntmps157 Tryz.results157 rfl (Nat.le_of_ble_eq_true rfl) ?_
  ((conv=>whnf);repeat' ((first|((with_reducible refine br_id ?_);(with_reducible refine br_f ?_))|((with_reducible refine gen_id ?_);first|((refine gen_psnil rfl rfl rfl us hq ?_))|((refine gen_bs rfl hp el_stp Stp.c [] [] rfl rfl rfl (fun _ h=>by cases h) (by omega) ?_);clear hp;intro br w hp)|((refine gen_app (s:=⟨some ⟨br,0,none⟩,0, []⟩) rfl hp 0 rfl el_stp rfl s rfl (h.keep hp.chg hB) (fun _ _=>rfl) stp_one (by simp only [List.length_nil];omega) (by simp only [List.length_nil,maxLen];omega) ?_);clear hp;intro A2 c2 w hp;dsimp only [List.set] at hp)))<;>(conv=>whnf)))
  exact ps_val (v':=Sl.v (α:=Stp) ⟨A2,c2, []++s.l⟩) rfl ⟨⟨A2,c2, []++s.l⟩,List.nil_append _,rfl,hp.made1 (j:=0) rfl⟩
section
variable {fv : Value} {fid : FuncId} {cb : Array Value} {p : Stp → Bool} {S : Nat → Prop}
theorem ixf_any {bl:Nat} {w0:World} {s:Sl Stp} (h:SlAt w0.heap.size w0 Stp.c 39 s) (hn:s.l.length≤1000000) (hq:∀(x:Stp) {w:World},Chg N0 w0 w→Calls Tryz.prog 158 #[x.v,ptr bl] w fun e w'=>e= .returned (.bool (p x))∧Chg N0 w w'):
  Calls Tryz.prog 208 #[s.v, .func (.func 158) #[] #[ptr bl]] w0 fun e w'=>((e= .returned (i64 (-1))∧∀x∈s.l,p x=false)∨∃i:Nat,e= .returned (i64 i)∧i < s.l.length∧(∀x∈s.l.take i,p x=false)∧∃x,s.l[i]? =some x∧p x=true)∧Chg N0 w0 w':=by
 have hp:=Hp.start (S:=N0) w0
 have hB:∀b,N0 b→w0.heap.size≤b:=fun _ hh=>hh.elim
 have us:=Tryz.underlying141
 refine calls_x (args:= [_,_]) tabOk Tryz.func208 Tryz.ntmps208 Tryz.results208 rfl (Nat.le_of_ble_eq_true rfl) ?_
 ((conv=>whnf);repeat' (((with_reducible refine gen_id ?_);(apply gen_len;exact rfl;exact rfl;assumption))<;>(conv=>whnf)))
 refine lp_inv (α:=Nat) (fun i=> [(0,s.v),(1, .func (.func 158) #[] #[ptr bl]),(7,i64 s.l.length),(8,i64 i)]) (fun i w=>i≤s.l.length∧(∀x∈s.l.take i,p x=false)∧Hp N0 w0 w []) (fun i=>s.l.length - i) 0 (by (repeat' (first|exact trivial|(refine ⟨rfl,?_⟩)))) ⟨by omega,fun x hx=>(by cases hx),hp⟩ ?_
 clear hp
 rintro i e0 w ⟨hi,hf,hp⟩
 dsimp only at hi hf hp ⊢
 rcases Nat.lt_or_ge i s.l.length with hlt|hge
 ·obtain ⟨bo,o,x,hA,hbb,hrow,hxx⟩:=h.has hlt
  have hcl:=fun {w:World} (hc:Chg N0 w0 w)=>hq x hc
  cases hpx:p x with
  |true=>
   rw [hpx] at hcl
   ((conv=>whnf);repeat' ((first|((with_reducible refine br_id ?_);first|(with_reducible refine br_t ?_)|((with_reducible refine br_dec (fun hx=>?_) (fun hx=>?_))<;>(try (exfalso;first|omega|contradiction))))|((with_reducible refine ldn_id ?_);((refine ldn_rowx hp hB ‹_› ‹_› _ rfl ‹_› rfl ?_)))|((with_reducible refine gen_id ?_);((refine gen_ixs rfl rfl ‹_› rfl rfl (by omega) ?_)))|((with_reducible refine cl_id ?_);((refine cl_eq ((hcl hp.chg)) rfl rfl ?_;rintro e w ⟨rfl,hcc⟩;replace hp:=hp.call0 hcc;refine ⟨_,rfl,?_⟩))))<;>(conv=>whnf)))
   exact ps_val (v':=i64 i) rfl ⟨.inr ⟨i,rfl,hlt,hf,x,hxx,hpx⟩,hp.chg⟩
  |false=>
   rw [hpx] at hcl
   ((conv=>whnf);repeat' ((first|((with_reducible refine br_id ?_);first|(with_reducible refine br_f ?_)|((with_reducible refine br_dec (fun hx=>?_) (fun hx=>?_))<;>(try (exfalso;first|omega|contradiction))))|((with_reducible refine ar_id ?_);((refine ar_n (i+1) (by omega) (by omega) ?_)))|((with_reducible refine ldn_id ?_);((refine ldn_rowx hp hB ‹_› ‹_› _ rfl ‹_› rfl ?_)))|((with_reducible refine gen_id ?_);((refine gen_ixs rfl rfl ‹_› rfl rfl (by omega) ?_)))|((with_reducible refine cl_id ?_);((refine cl_eq ((hcl hp.chg)) rfl rfl ?_;rintro e w ⟨rfl,hcc⟩;replace hp:=hp.call0 hcc;refine ⟨_,rfl,?_⟩))))<;>(conv=>whnf)))
   exact lp_next (i+1) (by show s.l.length - (i+1) < s.l.length - i;omega) (by (repeat' (first|exact trivial|(refine ⟨rfl,?_⟩)))) ⟨by show i+1≤_;omega,fun y hy=>(by
    rw [List.take_add_one,hxx] at hy
    rcases List.mem_append.1 hy with hy|hy
    ·exact hf y hy
    ·obtain rfl:y=x:=by simpa using hy
     exact hpx),hp⟩
 ·rw [List.take_of_length_le (by omega)] at hf
  ((conv=>whnf);repeat' (((with_reducible refine br_id ?_);((with_reducible refine br_dec (fun hx=>?_) (fun hx=>?_))<;>(try (exfalso;first|omega|contradiction))))<;>(conv=>whnf)))
  exact ps_val (v':=i64 (-1)) rfl ⟨.inl ⟨rfl,hf⟩,hp.chg⟩
theorem del_any {bl:Nat} {w0:World} {s:Sl Stp} (h:(rowR 144 39 Stp.c s).ok w0) (hn:s.l.length≤1000000) (hq:∀(x:Stp) {w:World},Chg (rowR 144 39 Stp.c s).dom w0 w→Calls Tryz.prog 158 #[x.v,ptr bl] w fun e w'=>e= .returned (.bool (p x))∧Chg N0 w w'):
  Calls Tryz.prog 156 #[s.v, .func (.func 158) #[] #[ptr bl]] w0 fun e w'=>∃A c,e= .returned (.slice A (s.l.filter fun x=> !p x).length c)∧Chg (rowR 144 39 Stp.c s).dom w0 w':=by
 have hp:=Hp.one h
 have us:=Tryz.underlying141
 have hB:∀b,N0 b→w0.heap.size≤b:=fun _ hh=>hh.elim
 have hix:=fun {w:World} (hc:Chg (rowR 144 39 Stp.c s).dom w0 w) (ha:SlAt w.heap.size w Stp.c 39 s)=>ixf_any (p:=p) (bl:=bl) (w0:=w) ha hn fun x {w'} hc'=>hq x (hc.trans0 hc')
 obtain ⟨W0,hW0⟩:∃W0,(rowR 144 39 Stp.c s).dom=W0:=⟨_,rfl⟩
 rw [hW0] at hp hq hix
 refine calls_x (args:= [_,_]) tabOk Tryz.func156 Tryz.ntmps156 Tryz.results156 rfl (Nat.le_of_ble_eq_true rfl) ?_
 ((conv=>whnf);repeat' ((first|((with_reducible refine br_id ?_);first|(with_reducible refine br_t ?_)|(with_reducible refine br_f ?_)|(with_reducible refine br_not ?_)|((with_reducible refine br_dec (fun hx=>?_) (fun hx=>?_))<;>(try (exfalso;first|omega|contradiction)))|((with_reducible refine br_eq (fun hx=>?_) (fun hx=>?_))<;>(try (exfalso;first|omega|contradiction)))|((with_reducible refine br_ne (fun hx=>?_) (fun hx=>?_))<;>(try (exfalso;first|omega|contradiction)))|((with_reducible refine br_s (fun hx=>?_) (fun hx=>?_))<;>(try (exfalso;first|omega|contradiction))))|((with_reducible refine ar_id ?_);first|(refine ar_i64 (by omega) ?_)|(refine ar_u32 (by omega) ?_)|(refine ar_u64 (by omega) ?_)|(refine ar_u8 (by omega) ?_))|((with_reducible refine cn_id ?_);first|(refine cn rfl ?_)|(refine cn ‹_› ?_)|(refine cn (by omega) ?_)|(refine cn (Chg.refl _ _) ?_))|((with_reducible refine ld_id ?_);first|(apply ld_hs hp;(focus repeat' constructor);exact rfl)|(refine ld_of ‹_› ?_))|((with_reducible refine ldn_id ?_);first|(apply lda_hs hp;(focus repeat' constructor);exact rfl)|(apply ldn_hs hp;(focus repeat' constructor);exact rfl;exact rfl))|((with_reducible refine al_id ?_);(refine al_cel hp ?_;clear hp;intro bb w hp))|((with_reducible refine st_id ?_);first|(apply sta_hs hp;(focus repeat' constructor);exact rfl;exact rfl;clear hp;intro w hp;(try dsimp only [List.set] at hp))|(apply st_hs hp;(focus repeat' constructor);exact rfl;exact rfl;clear hp;intro w hp;(try dsimp only [List.set] at hp)))|((with_reducible refine gen_id ?_);first|(apply gen_build;exact rfl;exact rfl)|(apply gen_len;exact rfl;exact rfl;assumption)|(apply gen_min;exact rfl;exact rfl;exact rfl)|(apply gen_max;exact rfl;exact rfl;exact rfl)|(apply gen_ix;exact rfl;exact rfl;exact rfl;exact rfl;omega)|(apply gen_ixa;exact rfl;exact rfl;exact rfl;exact rfl;omega))|((with_reducible refine dr_id ?_);first|(refine dr_auto tabOk (by kernel_rfl) (by decide+kernel) ?_;(try replace hp:=hp.drew))|(refine dr_autog tabOk (by kernel_rfl) (by decide+kernel) ?_;(try replace hp:=hp.drew))|(refine dr_autot tabOk (by kernel_rfl) (by decide+kernel) ?_;(try replace hp:=hp.drew)))|((with_reducible refine fk_id ?_);(refine fk_mk ?_ ?_))|((with_reducible refine rd_id ?_);first|(apply rd_len;exact rfl;exact rfl;assumption)|(apply rd_ix;exact rfl;exact rfl;exact rfl;exact rfl;omega)))<;>(conv=>whnf)))
 refine cl_eq (hix hp.chg (hp.row (j:=0) rfl)) rfl rfl ?_
 rintro e w ⟨⟨rfl,hall⟩|⟨i,rfl,hil,hbef,x0,hx0,hpx0⟩,hc⟩
 ·replace hp:=hp.call0 hc
  refine ⟨_,rfl,?_⟩
  ((conv=>whnf);repeat' (((with_reducible refine br_id ?_);((with_reducible refine br_eq (fun hx=>?_) (fun hx=>?_))<;>(try (exfalso;first|omega|contradiction))))<;>(conv=>whnf)))
  have hfl:s.l.filter (fun x=> !p x)=s.l:=List.filter_eq_self.2 fun x hx=>by rw [hall x hx];rfl
  refine ps_val (v':=s.v) rfl ⟨s.A,s.c,by rw [hfl],by rw [hW0];exact hp.chg⟩
 ·replace hp:=hp.call0 hc
  refine ⟨_,rfl,?_⟩
  obtain ⟨g,hg⟩:∃g,s.A=some ⟨g,0,none⟩:=by
   rcases (rowR_ok.1 h).1.2 with ⟨_,h4⟩|⟨g,cap,cur,h3,_⟩
   ·omega
   ·injection h3 with h3
    exact ⟨g,h3⟩
  obtain ⟨A,c,l⟩:=s
  dsimp only at hg hil hbef hx0 hn hp h ⊢
  subst hg
  obtain ⟨N,hN⟩:∃N,l.length=N:=⟨_,rfl⟩
  have hflt:∀j,(l.take j).filter (fun x=> !p x)++(l.drop j).filter (fun x=> !p x)=l.filter fun x=> !p x:=fun j=>by rw [←List.filter_append,List.take_append_drop]
  have hpre:(l.take i).filter (fun x=> !p x)=l.take i:=List.filter_eq_self.2 fun x hx=>by rw [hbef x hx];rfl
  have hl1:l=l.take i++([x0]++l.drop (i+1)):=by
   have h1:l.drop i=x0::l.drop (i+1):=by
    rw [List.drop_eq_getElem_cons hil]
    rw [List.getElem?_eq_getElem hil] at hx0
    rw [Option.some.inj hx0]
   rw [List.singleton_append,←h1,List.take_append_drop]
  have hk1:(l.take (i+1)).filter (fun x=> !p x)=l.take i:=by
   rw [List.take_add_one,hx0,List.filter_append,hpre]
   simp [hpx0]
  have hzi:∃ti,Tryz.prog.info? 144=some ti∧ti.zero=some Stp.z.v:=by
   obtain ⟨_,ti,z,h1,h2,_⟩:=el_stp
   have h3:(Tryz.prog.info? 144).map (·.zero)=some (some Stp.z.v):=by kernel_rfl
   rw [h1] at h3
   exact ⟨ti,h1,Option.some.inj h3⟩
  obtain ⟨ti,hti,htz⟩:=hzi
  rw [show Sl.v (α:=Stp) ⟨some ⟨g,0,none⟩,c,l⟩= .slice (some ⟨g,0,none⟩) N c by rw [Sl.v,hN]]
  rw [show (rowR 144 39 Stp.c ⟨some ⟨g,0,none⟩,c,l⟩)=stR (some ⟨g,0,none⟩) c (l.take i++([x0]++l.drop (i+1))) by rw [←hl1]] at hp
  ((conv=>whnf);repeat' ((first|((with_reducible refine br_id ?_);((with_reducible refine br_eq (fun hx=>?_) (fun hx=>?_))<;>(try (exfalso;first|omega|contradiction))))|((with_reducible refine ar_id ?_);((refine ar_n (i+1) (by omega) (by omega) ?_))))<;>(conv=>whnf)))
  refine lp_inv (α:=List Stp×List Stp×Nat) (fun a=> [(0, .slice (some ⟨g,0,none⟩) N c),(1, .func (.func 158) #[] #[ptr bl]),(5,i64 a.1.length),(6,i64 a.2.2)]) (fun a w=>a.2.2≤N∧a.1=(l.take a.2.2).filter (fun x=> !p x)∧1≤a.2.1.length∧a.1.length+a.2.1.length=a.2.2∧Hp W0 w0 w [stR (some ⟨g,0,none⟩) c (a.1++(a.2.1++l.drop a.2.2))]) (fun a=>N - a.2.2) (l.take i, [x0],i+1) (by rw [show (l.take i).length=i by rw [List.length_take];omega];(repeat' (first|exact trivial|(refine ⟨rfl,?_⟩)))) ⟨by show i+1≤N;omega,hk1.symm,Nat.le_refl _,by rw [List.length_take];show min i l.length+1=i+1;omega,hp⟩ ?_
  clear hp
  rintro ⟨K,G,j⟩ e0 w ⟨hj,hK,hG,hKG,hp⟩
  dsimp only at hj hK hG hKG hp ⊢
  obtain ⟨m,hm⟩:∃m,K.length=m:=⟨_,rfl⟩
  rw [hm] at hKG ⊢
  have hAA:(stS (some ⟨g,0,none⟩) c (K++(G++l.drop j))).A=some ⟨g,0,none⟩:=rfl
  have hdl:(l.drop j).length=N - j:=by rw [List.length_drop,hN]
  have hcc:N≤c:=by
   have:=(hp.row (j:=0) rfl).le
   simp only [List.length_append] at this
   omega
  rcases Nat.lt_or_ge j N with hlt|hge
  ·have hv:l[j]? =some l[j]:=List.getElem?_eq_getElem (by omega)
   obtain ⟨v,hvv⟩:∃v,l[j]=v:=⟨_,rfl⟩
   rw [hvv] at hv
   have hdr:l.drop j=v::l.drop (j+1):=by rw [List.drop_eq_getElem_cons (by omega),hvv]
   have hxj:(K++(G++l.drop j))[j]? =some v:=by
    rw [hdr,←List.append_assoc,show j=(K++G).length by rw [List.length_append];omega]
    exact get_mid _ _ _
   have hLl:(K++(G++l.drop j)).length=N:=by simp only [List.length_append];omega
   have htk:(l.take (j+1)).filter (fun x=> !p x)=K++(if p v then [] else [v]):=by
    rw [List.take_add_one,hv,List.filter_append,←hK]
    cases hpv:p v<;>simp [hpv]
   have hcl:=fun {w:World} (hc:Chg W0 w0 w)=>hq v hc
   cases hpv:p v with
   |true=>
    rw [hpv] at hcl htk
    rw [if_pos rfl,List.append_nil] at htk
    ((conv=>whnf);repeat' ((first|((with_reducible refine br_id ?_);first|(with_reducible refine br_t ?_)|(with_reducible refine br_not ?_)|((with_reducible refine br_dec (fun hx=>?_) (fun hx=>?_))<;>(try (exfalso;first|omega|contradiction))))|((with_reducible refine ar_id ?_);((refine ar_n (j+1) (by omega) (by omega) ?_)))|((with_reducible refine cn_id ?_);(refine cn rfl ?_))|((with_reducible refine ldn_id ?_);first|((refine ldn_ownx hp 0 rfl ‹_› _ rfl ‹_› rfl ?_))|(apply lda_hs hp;(focus repeat' constructor);exact rfl))|((with_reducible refine al_id ?_);(refine al_cel hp ?_;clear hp;intro bb w hp))|((with_reducible refine st_id ?_);(apply sta_hs hp;(focus repeat' constructor);exact rfl;exact rfl;clear hp;intro w hp;(try dsimp only [List.set] at hp)))|((with_reducible refine gen_id ?_);first|((refine gen_ixs rfl rfl ‹_› rfl rfl (by omega) ?_))|(apply gen_len;exact rfl;exact rfl;assumption))|((with_reducible refine cl_id ?_);((refine cl_eq ((hcl hp.chg)) rfl rfl ?_;rintro e w ⟨rfl,hcc⟩;replace hp:=hp.call0 hcc;refine ⟨_,rfl,?_⟩))))<;>(conv=>whnf)))
    replace hp:=hp.tail
    rw [hdr] at hp
    exact lp_next (K,G++ [v],j+1) (by show N - (j+1) < N - j;omega) (by rw [hm];(repeat' (first|exact trivial|(refine ⟨rfl,?_⟩)))) ⟨by show j+1≤N;omega,htk.symm,by show 1≤(G++ [v]).length;rw [List.length_append];omega,by show K.length+(G++ [v]).length=j+1;rw [List.length_append,List.length_singleton];omega,by rw [show K++((G++ [v])++l.drop (j+1))=K++(G++v::l.drop (j+1)) by simp];exact hp⟩
   |false=>
    rw [hpv] at hcl htk
    rw [if_neg (by simp)] at htk
    obtain ⟨g0,G',rfl⟩:=cut_head (l:=G) (by omega)
    rw [List.length_cons] at hKG
    have hset:(K++(g0::G'++l.drop j)).set m v=(K++ [v])++((G'++ [v])++l.drop (j+1)):=by
     rw [hdr,←hm]
     show (K++g0::(G'++v::l.drop (j+1))).set K.length v=_
     rw [set_mid]
     simp
    ((conv=>whnf);repeat' ((first|((with_reducible refine br_id ?_);first|(with_reducible refine br_f ?_)|(with_reducible refine br_not ?_)|((with_reducible refine br_dec (fun hx=>?_) (fun hx=>?_))<;>(try (exfalso;first|omega|contradiction))))|((with_reducible refine ar_id ?_);first|((refine ar_n (j+1) (by omega) (by omega) ?_))|((refine ar_n (m+1) (by omega) (by omega) ?_)))|((with_reducible refine cn_id ?_);(refine cn rfl ?_))|((with_reducible refine ldn_id ?_);first|((refine ldn_ownx hp 0 rfl ‹_› _ rfl ‹_› rfl ?_))|(apply lda_hs hp;(focus repeat' constructor);exact rfl))|((with_reducible refine al_id ?_);(refine al_cel hp ?_;clear hp;intro bb w hp))|((with_reducible refine st_id ?_);first|((refine st_ownx hp 1 rfl rfl m rfl v rfl (by rw [hLl];omega) (fun _=>rfl) rfl ?_);clear hp;intro w hp;dsimp only [List.set] at hp)|(apply sta_hs hp;(focus repeat' constructor);exact rfl;exact rfl;clear hp;intro w hp;(try dsimp only [List.set] at hp)))|((with_reducible refine gen_id ?_);first|((refine gen_ixs rfl rfl ‹_› rfl rfl (by omega) ?_))|(apply gen_len;exact rfl;exact rfl;assumption))|((with_reducible refine cl_id ?_);((refine cl_eq ((hcl hp.chg)) rfl rfl ?_;rintro e w ⟨rfl,hcc⟩;replace hp:=hp.call0 hcc;refine ⟨_,rfl,?_⟩))))<;>(conv=>whnf)))
    replace hp:=hp.tail
    rw [hset] at hp
    exact lp_next (K++ [v],G'++ [v],j+1) (by show N - (j+1) < N - j;omega) (by rw [show (K++ [v]).length=m+1 by rw [List.length_append,hm];rfl];(repeat' (first|exact trivial|(refine ⟨rfl,?_⟩)))) ⟨by show j+1≤N;omega,htk.symm,by show 1≤(G'++ [v]).length;rw [List.length_append];exact Nat.le_add_left _ _,by show (K++ [v]).length+(G'++ [v]).length=j+1;rw [List.length_append,List.length_append,List.length_singleton];omega,hp⟩
  ·obtain rfl:j=N:=by omega
   have hKl:(l.filter fun x=> !p x).length=m:=by rw [←hm,hK,List.take_of_length_le (by omega)]
   rw [hKl]
   obtain ⟨cap,cur,ho1,ho2,ho3,ho4,ho5,ho6⟩:∃cap cur,c=cap∧w.heap[g]? =some (.cells cur 144 (0,0))∧(K++(G++l.drop j)).length≤cap∧cap≤maxLen∧cur.size=cap*39∧True:=by
    rcases (rowR_ok.1 (hp.get (j:=0) rfl)).1.2 with ⟨h1,_⟩|⟨g',cap,cur,h1,_,h2,h3,h4,h5,h6⟩
    ·cases h1
    ·injection h1 with h1 _ h8
     cases h1
     exact ⟨cap,cur,h8,h2,h3,h4,h5,trivial⟩
   subst ho1
   ((conv=>whnf);repeat' ((first|((with_reducible refine br_id ?_);((with_reducible refine br_dec (fun hx=>?_) (fun hx=>?_))<;>(try (exfalso;first|omega|contradiction))))|((with_reducible refine gen_id ?_);first|((refine gen_rest rfl el_stp rfl hcc rfl m rfl (by omega) ?_);intro off hoff)|((refine gen_clear rfl us hti htz (fun v hv=>List.all_eq_true.1 (show Stp.z.v.cells.toList.all Value.oneCell'=true from rfl) v (Array.mem_toList_iff.2 hv)) rfl ho2 (by rw [ho5,show Stp.z.v.cells.size=39 from rfl];omega) ?_);intro w' hcw)|((refine gen_front rfl el_stp rfl hcc rfl m rfl (by omega) ?_))|(apply gen_len;exact rfl;exact rfl;assumption)))<;>(conv=>whnf)))
   refine ps_val (v':= .slice (some ⟨g,0,none⟩) m c) rfl ⟨some ⟨g,0,none⟩,c,rfl,?_⟩
   rw [hW0]
   refine hp.chg.trans hcw fun k _ hk=>?_
   rw [←hW0,hk]
   exact rowR_dom.2 rfl
end
end Go.Proofs.YteabebmlclgakaaGreat
/- RAt: the document's blocks: where an id stands first, how often. No program in sight. -/
namespace Go.Proofs.YteabebmlclgakaaGreat
open Go.RowKit
set_option maxRecDepth 100000
set_option maxHeartbeats 2000000
structure RAt (B:Nat) (w:World) (L:Sl Blk):Prop where
 row:SlAt B w Blk.c 65 L
 tx:∀b∈L.l,SlAt B w Id.c 32 b.tx
end Go.Proofs.YteabebmlclgakaaGreat
/- Idx: the first place of an id; few ids. -/
namespace Go.Proofs.YteabebmlclgakaaGreat
open Go.RowKit
set_option maxRecDepth 100000
set_option maxHeartbeats 2000000
end Go.Proofs.YteabebmlclgakaaGreat
/- Block: blocks, lists of ids: whether they may be, copies, places. -/
namespace Go.Proofs.YteabebmlclgakaaGreat
open Go.RowKit
set_option maxRecDepth 100000
set_option maxHeartbeats 2000000
theorem dup_of {α:Type} {l:List α} {i:Nat} {x:α} (hx:l[i]? =some x) (hm:x∈l.take i):¬l.Nodup:=fun h=>by
 have h1:l=l.take i++l.drop i:=(List.take_append_drop i l).symm
 rw [h1] at h
 have h2:=(List.nodup_append.1 h).2.2 x hm
 have h3:x∈l.drop i:=by
  refine List.mem_of_getElem? (i:=0) ?_
  rw [List.getElem?_drop]
  exact hx
 exact h2 x h3 rfl
theorem nodup_next {α:Type} {l:List α} {x:α} (h:l.Nodup) (hx:x∉l):(l++ [x]).Nodup:=List.nodup_append.2 ⟨h,by simp,fun a ha b hb=>by simp at hb;subst hb;exact fun e=>hx (e▸ha)⟩
def rightB (b:Blk):Bool:=(decide (b.tx.l.length≤32) && !decide (b.hash=b.parent)) && decide b.tx.l.Nodup
theorem blkright_any {B:Nat} {w0:World} {b:Blk} (h:SlAt B w0 Id.c 32 b.tx):Calls Tryz.prog 111 #[b.v] w0 fun e w'=>e= .returned (.bool (rightB b))∧Chg N0 w0 w':=by
 have hp:=Hp.start (S:=N0) w0
 have hB:∀b,N0 b→B≤b:=fun _ hh=>hh.elim
 have hmax:b.tx.l.length≤9223372036854775807:=by have:=h.le;have:=h.max;simp only [maxLen] at this;omega
 have u1:=Tryz.underlying52
 refine calls_x (args:= [_]) tabOk Tryz.func111 Tryz.ntmps111 Tryz.results111 rfl (Nat.le_of_ble_eq_true rfl) ?_
 ((conv=>whnf);repeat' ((first|((with_reducible refine br_id ?_);first|(with_reducible refine br_t ?_)|(with_reducible refine br_f ?_)|((with_reducible refine br_dec (fun hx=>?_) (fun hx=>?_))<;>(try (exfalso;first|omega|contradiction))))|((with_reducible refine ld_id ?_);(apply ld_hs hp;(focus repeat' constructor);exact rfl))|((with_reducible refine ldn_id ?_);(apply ldn_hs hp;(focus repeat' constructor);exact rfl;exact rfl))|((with_reducible refine al_id ?_);(refine al_cel hp ?_;clear hp;intro bb w hp))|((with_reducible refine gen_id ?_);first|((refine gen_mmake rfl Id.v Value.bool hp ?_);clear hp;intro bb w hp)|((refine gen_eqa rfl rfl rfl (eq_id b.hash b.parent) (by kernel_rfl) (.inr rfl) ?_))|(apply gen_len;exact rfl;exact rfl;assumption)))<;>(conv=>whnf)))
 ·rename_i bk _
  obtain ⟨bm,hbm⟩:∃bm,bm=bb:=⟨_,rfl⟩
  subst hbm
  have hf0:(!decide (b.hash=b.parent))=(decide (b.tx.l.length≤32) && !decide (b.hash=b.parent)):=by rw [decide_eq_true (show b.tx.l.length≤32 by omega),Bool.true_and]
  refine lp_inv (α:=Nat×List (Id×Bool)) (fun a=> [(1,ptr bk),(3, .map (some bm)),(4, .bool ((!decide (b.hash=b.parent)))),(20,b.tx.v),(21,errno b.tx.l.length),(22,errno a.1)]) (fun a w=>a.1≤b.tx.l.length∧(0 < a.1→(!decide (b.hash=b.parent))=true)∧(∀x,(mlk a.2 x).getD false=decide (x∈b.tx.l.take a.1))∧(b.tx.l.take a.1).Nodup∧Hp N0 w0 w [mapR Id.v Value.bool bm a.2,cel bk 54 b.c.toArray]) (fun a=>b.tx.l.length - a.1) (0, []) (by (repeat' (first|exact trivial|(refine ⟨rfl,?_⟩)))) ⟨by omega,by omega,by simp,by simp,hp⟩ ?_
  clear hp
  rintro ⟨i,M⟩ e0 w ⟨hi,hfi,hM,hnd,hp⟩
  dsimp only at hi hfi hM hnd hp ⊢
  rcases Nat.lt_or_ge i b.tx.l.length with hlt|hge
  ·obtain ⟨bb,o,x,hA,hb,hrow,hxx⟩:=h.has hlt
   have hmem:x∈b.tx.l:=List.mem_of_getElem? hxx
   have htk:b.tx.l.take (i+1)=b.tx.l.take i++ [x]:=by rw [List.take_add_one,hxx];rfl
   ((conv=>whnf);repeat' ((first|((with_reducible refine br_id ?_);first|(with_reducible refine br_t ?_)|(with_reducible refine br_f ?_)|(with_reducible refine br_not ?_)|((with_reducible refine br_dec (fun hx=>?_) (fun hx=>?_))<;>(try (exfalso;first|omega|contradiction)))|((with_reducible refine br_s (fun hx=>?_) (fun hx=>?_))<;>(try (exfalso;first|omega|contradiction))))|((with_reducible refine ar_id ?_);(refine ar_i64 (by omega) ?_))|((with_reducible refine cn_id ?_);(refine cn rfl ?_))|((with_reducible refine ldn_id ?_);first|((refine ldn_rowx hp hB ‹_› ‹_› _ rfl ‹_› rfl ?_))|(apply lda_hs hp;(focus repeat' constructor);exact rfl))|((with_reducible refine al_id ?_);(refine al_cel hp ?_;clear hp;intro bb w hp))|((with_reducible refine st_id ?_);(apply sta_hs hp;(focus repeat' constructor);exact rfl;exact rfl;clear hp;intro w hp;(try dsimp only [List.set] at hp)))|((with_reducible refine gen_id ?_);first|((refine gen_ixs rfl rfl ‹_› rfl rfl (by omega) ?_))|((refine gen_look rfl hp 1 rfl rfl idK Tryz.underlying266 (z:=false) rfl _ rfl ?_))|((refine gen_put rfl hp 1 rfl rfl idK Tryz.underlying266 (x) rfl (true) rfl ?_);clear hp;intro w hp)))<;>(conv=>whnf)))
   ·refine ps_val (v':= .bool false) rfl ⟨?_,hp.chg⟩
    have h1:rightB b=false:=by
     unfold rightB
     rw [hM x,decide_eq_true_eq] at hx
     rw [decide_eq_false (dup_of hxx hx),Bool.and_false]
    rw [h1]
   ·refine ps_val (v':= .bool false) rfl ⟨?_,hp.chg⟩
    have h1:rightB b=false:=by
     unfold rightB
     rw [←hf0]
     first|exact Bool.false_and _|(rw [decide_eq_true hx];rfl)
    rw [h1]
   ·refine lp_next (i+1,mput M x true) ?_ (by (repeat' (first|exact trivial|(refine ⟨rfl,?_⟩)))) ⟨by show i+1≤_;omega,fun _=>by simpa using hx,fun y=>?_,?_,hp.sub (List.sublist_cons_self _ _)⟩
    ·show b.tx.l.length - (i+1) < b.tx.l.length - i;omega
    ·show (mlk (mput M x true) y).getD false=decide (y∈b.tx.l.take (i+1))
     rw [mlk,lookup_mput,htk]
     by_cases hy:y=x
     ·simp [hy]
     ·rw [if_neg hy]
      exact (hM y).trans (by simp [hy])
    ·show (b.tx.l.take (i+1)).Nodup
     rw [htk]
     refine nodup_next hnd fun hh=>?_
     have h1:=hM x
     have h2:(mlk M x).getD false=false:=by assumption
     rw [decide_eq_true hh,h2] at h1
     cases h1
  ·((conv=>whnf);repeat' (((with_reducible refine br_id ?_);((with_reducible refine br_dec (fun hx=>?_) (fun hx=>?_))<;>(try (exfalso;first|omega|contradiction))))<;>(conv=>whnf)))
   refine ps_val (v':= .bool (!decide (b.hash=b.parent))) rfl ⟨?_,hp.chg⟩
   rw [List.take_of_length_le hge] at hnd
   have h1:rightB b=(!decide (b.hash=b.parent)):=by
    unfold rightB
    rw [←hf0,decide_eq_true hnd,Bool.and_true]
   rw [h1]
 ·rename_i bk _
  obtain ⟨bm,hbm⟩:∃bm,bm=bb:=⟨_,rfl⟩
  subst hbm
  have hf0:false=(decide (b.tx.l.length≤32) && !decide (b.hash=b.parent)):=by rw [decide_eq_false (show ¬b.tx.l.length≤32 by omega),Bool.false_and]
  refine lp_inv (α:=Nat×List (Id×Bool)) (fun a=> [(1,ptr bk),(3, .map (some bm)),(4, .bool (false)),(20,b.tx.v),(21,errno b.tx.l.length),(22,errno a.1)]) (fun a w=>a.1≤b.tx.l.length∧(0 < a.1→false=true)∧(∀x,(mlk a.2 x).getD false=decide (x∈b.tx.l.take a.1))∧(b.tx.l.take a.1).Nodup∧Hp N0 w0 w [mapR Id.v Value.bool bm a.2,cel bk 54 b.c.toArray]) (fun a=>b.tx.l.length - a.1) (0, []) (by (repeat' (first|exact trivial|(refine ⟨rfl,?_⟩)))) ⟨by omega,by omega,by simp,by simp,hp⟩ ?_
  clear hp
  rintro ⟨i,M⟩ e0 w ⟨hi,hfi,hM,hnd,hp⟩
  dsimp only at hi hfi hM hnd hp ⊢
  rcases Nat.lt_or_ge i b.tx.l.length with hlt|hge
  ·obtain ⟨bb,o,x,hA,hb,hrow,hxx⟩:=h.has hlt
   have hmem:x∈b.tx.l:=List.mem_of_getElem? hxx
   have htk:b.tx.l.take (i+1)=b.tx.l.take i++ [x]:=by rw [List.take_add_one,hxx];rfl
   ((conv=>whnf);repeat' ((first|((with_reducible refine br_id ?_);first|(with_reducible refine br_t ?_)|(with_reducible refine br_f ?_)|(with_reducible refine br_not ?_)|((with_reducible refine br_dec (fun hx=>?_) (fun hx=>?_))<;>(try (exfalso;first|omega|contradiction)))|((with_reducible refine br_s (fun hx=>?_) (fun hx=>?_))<;>(try (exfalso;first|omega|contradiction))))|((with_reducible refine cn_id ?_);(refine cn rfl ?_))|((with_reducible refine ldn_id ?_);first|((refine ldn_rowx hp hB ‹_› ‹_› _ rfl ‹_› rfl ?_))|(apply lda_hs hp;(focus repeat' constructor);exact rfl))|((with_reducible refine al_id ?_);(refine al_cel hp ?_;clear hp;intro bb w hp))|((with_reducible refine st_id ?_);(apply sta_hs hp;(focus repeat' constructor);exact rfl;exact rfl;clear hp;intro w hp;(try dsimp only [List.set] at hp)))|((with_reducible refine gen_id ?_);first|((refine gen_ixs rfl rfl ‹_› rfl rfl (by omega) ?_))|((refine gen_look rfl hp 1 rfl rfl idK Tryz.underlying266 (z:=false) rfl _ rfl ?_))))<;>(conv=>whnf)))
   ·refine ps_val (v':= .bool false) rfl ⟨?_,hp.chg⟩
    have h1:rightB b=false:=by
     unfold rightB
     rw [hM x,decide_eq_true_eq] at hx
     rw [decide_eq_false (dup_of hxx hx),Bool.and_false]
    rw [h1]
   ·refine ps_val (v':= .bool false) rfl ⟨?_,hp.chg⟩
    have h1:rightB b=false:=by
     unfold rightB
     rw [←hf0]
     first|exact Bool.false_and _|(rw [decide_eq_true hx];rfl)
    rw [h1]
  ·((conv=>whnf);repeat' (((with_reducible refine br_id ?_);((with_reducible refine br_dec (fun hx=>?_) (fun hx=>?_))<;>(try (exfalso;first|omega|contradiction))))<;>(conv=>whnf)))
   refine ps_val (v':= .bool (false)) rfl ⟨?_,hp.chg⟩
   rw [List.take_of_length_le hge] at hnd
   have h1:rightB b=(false):=by
    unfold rightB
    rw [←hf0,decide_eq_true hnd,Bool.and_true]
   rw [h1]
end Go.Proofs.YteabebmlclgakaaGreat
/- Block (2): places in lists, copies, the document's answers. -/
namespace Go.Proofs.YteabebmlclgakaaGreat
open Go.RowKit
set_option maxRecDepth 100000
set_option maxHeartbeats 2000000
theorem copy_any {B:Nat} {w0:World} {b:Blk} (h:SlAt B w0 Id.c 32 b.tx) (hn:b.tx.l.length≤1000000):Calls Tryz.prog 46 #[b.v] w0 fun e w'=>∃s:Sl Id,s.l=b.tx.l∧e= .returned ({b with tx:=s}:Blk).v∧Made (rowR 44 32 Id.c s) w0 w':=by
 have hp:=Hp.start (S:=N0) w0
 have hB:∀b,N0 b→B≤b:=fun _ hh=>hh.elim
 have u1:=Tryz.underlying52
 refine calls_x (args:= [_]) tabOk Tryz.func46 Tryz.ntmps46 Tryz.results46 rfl (Nat.le_of_ble_eq_true rfl) ?_
 ((conv=>whnf);repeat' ((first|((with_reducible refine cn_id ?_);(refine cn rfl ?_))|((with_reducible refine ld_id ?_);(apply ld_hs hp;(focus repeat' constructor);exact rfl))|((with_reducible refine ldn_id ?_);(apply lda_hs hp;(focus repeat' constructor);exact rfl))|((with_reducible refine al_id ?_);(refine al_cel hp ?_;clear hp;intro bb w hp))|((with_reducible refine st_id ?_);first|(apply sta_hs hp;(focus repeat' constructor);exact rfl;exact rfl;clear hp;intro w hp;(try dsimp only [List.set] at hp))|(apply st_hs hp;(focus repeat' constructor);exact rfl;exact rfl;clear hp;intro w hp;(try dsimp only [List.set] at hp)))|((with_reducible refine gen_id ?_);((refine gen_app0 rfl hp el_id rfl b.tx rfl (h.keep hp.chg hB) (fun _ _=>rfl) idL_one (by omega) (by simp only [maxLen];omega) ?_);clear hp;intro A' c' w hg hp)))<;>(conv=>whnf)))
 exact ps_val (v':=({b with tx:=⟨A',c',b.tx.l⟩}:Blk).v) rfl ⟨⟨A',c',b.tx.l⟩,rfl,rfl,hp.made1 (j:=0) rfl⟩
end Go.Proofs.YteabebmlclgakaaGreat
/- Plc: places of transactions. No condition. -/
namespace Go.Proofs.YteabebmlclgakaaGreat
open Go.RowKit
set_option maxRecDepth 100000
set_option maxHeartbeats 2000000
structure Plc where
 h:UInt32
 at':Int
 deriving DecidableEq
abbrev Plc.c (k:Plc):List Value:= [u32 k.h,i64 k.at']
abbrev Plc.v (k:Plc):Value:= .agg #[u32 k.h,i64 k.at']
theorem el_plc:ElT Tryz.prog 267 164 2 16:=elt_of (z:= .agg #[.int .u32 0, .int .i64 0]) Tryz.underlying267 (by kernel_rfl) rfl (by omega)
theorem plc_one {l:List Plc}:∀x∈l,∀u∈Plc.c x,u.oneCell'=true:=fun x _ u hu=>by
 rcases List.mem_cons.1 hu with rfl|hu
 ·rfl
 rcases List.mem_cons.1 hu with rfl|hu
 ·rfl
 ·cases hu
theorem eq_plc (x y:Plc):EqIs Tryz.prog 164 x.v y.v (decide (x=y)):=eqis_of (fs:=Tryz.prog.fieldsOf 164) (by kernel_rfl) (by kernel_rfl) fun w=>by
 have h0:=eqf_cons (P:=Tryz.prog) (w:=w) (d:=9999) (xs:= #[u32 x.h,i64 x.at']) (ys:= #[u32 y.h,i64 y.at']) (f:=((Tryz.prog.fieldsOf 164)[0]?).getD default) (by decide+kernel) (part_word (n:=1) (by kernel_rfl) (v:=u32 x.h) (by kernel_rfl)) (part_word (n:=1) (by kernel_rfl) (v:=u32 y.h) (by kernel_rfl))
  (run_equalIn_int w 9998 _ .u32 .u32 _ _ (by kernel_rfl)) (eqf_cons (f:=((Tryz.prog.fieldsOf 164)[1]?).getD default) (by decide+kernel) (part_word (n:=1) (by kernel_rfl) (v:=i64 x.at') (by kernel_rfl)) (part_word (n:=1) (by kernel_rfl) (v:=i64 y.at') (by kernel_rfl)) (run_equalIn_int w 9998 _ .i64 .i64 _ _ (by kernel_rfl)) eqf_nil)
 rw [u32_eq] at h0
 have e:(decide (x.h=y.h) && ((x.at'==y.at') && true))=decide (x=y):=by
  rw [Bool.eq_iff_iff]
  cases x;cases y
  simp
 rw [e] at h0
 exact h0
end Go.Proofs.YteabebmlclgakaaGreat
