/- MAuditTells34: Aud12, Aud13. -/
import Derived.Test.YteabebmlclgakaaGreatMAuditTells33
set_option linter.unusedSimpArgs false
set_option linter.unusedVariables false
/- Aud12: what the audit tells, in words. Of states that are few. -/
namespace Go.Proofs.YteabebmlclgakaaGreat
open Go.RowKit Go.Shelf
set_option maxRecDepth 100000
set_option maxHeartbeats 4000000
def toldS (x:Sta):List UInt8:=joinL ((brokenS x).map nameOf)
theorem told_len (l:List Int) (h:l.length≤10):(joinL (l.map nameOf)).length≤90:=by
 have:=joinL_len (l.map nameOf) (fun y hy=>by obtain ⟨v,_,rfl⟩:=List.mem_map.1 hy;exact nameOf_len v)
 rw [List.length_map] at this
 omega
theorem told_next {l:List Int} {i:Nat} {v:Int} (h:l[i]? =some v):joinL ((l.take (i+1)).map nameOf)=if i=0 then nameOf v else joinL ((l.take i).map nameOf)++ [32]++nameOf v:=by
 rw [List.take_add_one,h,List.map_append]
 show joinL (_++ [nameOf v])=_
 rw [join_snoc]
 have hl:=(List.getElem?_eq_some_iff.1 h).1
 by_cases h0:i=0
 ·subst h0
  rfl
 ·rw [if_neg h0,if_neg]
  intro e
  have:=congrArg List.length e
  rw [List.length_map,List.length_take,List.length_nil] at this
  omega
theorem rd_sadd {P:Program} {w:World} {ρ:Operand→Value} {o:Oper} {g:Value→Prop} {t t2:TypeId} {x y:Operand} (hop:o.op= .binOp .add t x y t2) {a b:List UInt8} (hx:ρ x=str a) (hy:ρ y=str b) (ha:a.length≤1000) (hb:b.length≤1000) (hk:g (str (a++b))):Rd P ρ o w g:=by
 have hg:eqGuard .add t x y (str a) (str b)=pure ():=by simp [eqGuard]
 refine rd_bin hop (by rw [hx,hy];exact hg) (fun w'=>?_) hk
 rw [hx,hy]
 show (binOp .add t (.string _) (.string _)).run P w'=_
 rw [binOp_string_add]
 exact run_string_add_lists w' a b (by omega) (by omega)
theorem gen_sadd {P:Program} {w:World} {ρ:Operand→Value} {o:Oper} {g:Value→World→Prop} {t t2:TypeId} {x y:Operand} (hop:o.op= .binOp .add t x y t2) {a b:List UInt8} (hx:ρ x=str a) (hy:ρ y=str b) (ha:a.length≤1000) (hb:b.length≤1000) (hk:g (str (a++b)) w):Gen P ρ o w g:=by
 have hg:eqGuard .add t x y (str a) (str b)=pure ():=by simp [eqGuard]
 refine gen_bin hop (by rw [hx,hy];exact hg) ?_ hk
 rw [hx,hy]
 show (binOp .add t (.string _) (.string _)).run P w=_
 rw [binOp_string_add]
 exact run_string_add_lists w a b (by omega) (by omega)
theorem atold_any {B:Nat} {w0:World} {x:Sta} (hs:StaAt B w0 x) (hBw:B≤w0.heap.size) (hf:FewI x) (hlv:∀j∈x.jobs.l, -9223372036854775808≤j.live∧j.live≤9223372036854775807) (hdep: -9223372036854775808≤x.cfg.dep∧x.cfg.dep≤9223372036854775807):Calls Tryz.prog 31 #[x.v] w0 fun e w'=>e= .returned (str (toldS x))∧Chg N0 w0 w':=by
 have hp:=Hp.start (S:=N0) w0
 have us:=Tryz.underlying76
 have u2:=Tryz.underlying78
 refine calls_x (args:= [_]) tabOk Tryz.func31 Tryz.ntmps31 Tryz.results31 rfl (Nat.le_of_ble_eq_true rfl) ?_
 ((conv=>whnf);repeat' ((first|((with_reducible refine ldn_id ?_);(apply lda_hs hp;(focus repeat' constructor);exact rfl))|((with_reducible refine al_id ?_);(refine al_cel hp ?_;clear hp;intro bb w hp)))<;>(conv=>whnf)))
 obtain ⟨b1,hb1⟩:∃x,x=bb:=⟨_,rfl⟩
 subst hb1
 refine cl_eq (abroken_any (hs.keep hp.chg (fun _ hh=>hh.elim)) (Nat.le_trans hBw hp.chg.size) hf hlv hdep) rfl rfl ?_
 rintro e w ⟨L,hL,rfl,hm⟩
 replace hp:=hp.add hm
 clear hm
 refine ⟨_,rfl,?_⟩
 have hLl:L.l.length≤10:=by rw [hL];exact brkL_len _ _
 ((conv=>whnf);repeat' (((with_reducible refine gen_id ?_);(apply gen_len;exact rfl;exact rfl;assumption))<;>(conv=>whnf)))
 replace hp:=hp.nilRow 9 1 sL
 refine lp_inv (α:=Nat×Sl (List UInt8)) (fun a=> [(3,a.2.v),(7,L.v),(8,i64 L.l.length),(9,i64 a.1)]) (fun a w=>a.1≤L.l.length∧a.2.l=(L.l.take a.1).map nameOf∧Hp N0 w0 w [rowR 9 1 sL a.2,rowR 3 1 iL L,cel b1 31 x.c.toArray]) (fun a=>L.l.length - a.1) (0,Sl.nil) (by (repeat' (first|exact trivial|(refine ⟨rfl,?_⟩)))) ⟨by omega,by simp [Sl.nil],hp⟩ ?_
 clear hp
 rintro ⟨i,r⟩ e0 w ⟨hi,hr,hp⟩
 dsimp only at hi hr hp ⊢
 have hrl:r.l.length≤10:=by rw [hr,List.length_map,List.length_take];omega
 rcases Nat.lt_or_ge i L.l.length with hlt|hge
 ·obtain ⟨b2,o2,v,hA2,hbb2,hrow2,hvv⟩:=(hp.row (j:=1) rfl).has hlt
  have hv:=brkL_mem (hL▸List.mem_of_getElem? hvv)
  have hnm:nameQ v=nameOf v:=if_pos ⟨hv.1,by have:=hv.2;omega⟩
  have hna:=fun w=>aname_any w v ⟨by omega,by omega⟩
  rw [hnm] at hna
  ((conv=>whnf);repeat' ((first|((with_reducible refine br_id ?_);((with_reducible refine br_dec (fun hx=>?_) (fun hx=>?_))<;>(try (exfalso;first|omega|contradiction))))|((with_reducible refine ar_id ?_);(refine ar_i64 (by omega) ?_))|((with_reducible refine ld_id ?_);((refine ld_own0 hp 1 rfl hA2 i rfl hvv (by rfl) ?_)))|((with_reducible refine gen_id ?_);first|((refine gen_ixs rfl rfl hA2 rfl rfl (by omega) ?_))|((refine gen_bs rfl hp el_str sL [nameOf v] [str (nameOf v)] rfl rfl rfl (fun _ hh=>by simp at hh;subst hh;rfl) (by omega) ?_);clear hp;intro br w hp)|((refine gen_app (s:=r) rfl hp 1 rfl el_str rfl ⟨some ⟨br,0,none⟩,1, [nameOf v]⟩ rfl (hp.row (j:=0) rfl) (fun _ _=>rfl) str_one (by simp only [List.length_cons,List.length_nil];omega) (by simp only [maxLen,List.length_cons,List.length_nil];omega) ?_);clear hp;intro A2 c2 w hp;dsimp only [List.set] at hp))|((with_reducible refine cl_id ?_);((refine cl_eq ((hna _)) rfl rfl ?_;rintro e w ⟨rfl,hcc⟩;replace hp:=hp.call0 hcc;refine ⟨_,rfl,?_⟩))))<;>(conv=>whnf)))
  exact lp_next (i+1,⟨A2,c2,r.l++ [nameOf v]⟩) (by show L.l.length - (i+1) < L.l.length - i;omega) (by (repeat' (first|exact trivial|(refine ⟨rfl,?_⟩)))) ⟨by show i+1≤_;omega,by show r.l++ [nameOf v]=_;rw [List.take_add_one,hvv,List.map_append,hr];rfl,hp.pick (rs':= [_,_,_]) [1,2,3] (by decide) rfl⟩
 ·rw [List.take_of_length_le hge] at hr
  have hjl:joinL r.l=toldS x:=by rw [hr,hL];rfl
  have hj:=sjoin_any (hp.row (j:=0) rfl) (Nat.le_refl _) (by omega) (by rw [hjl];exact Nat.le_trans (told_len _ (brkL_len _ _)) (by omega))
  rw [hjl] at hj
  ((conv=>whnf);repeat' ((first|((with_reducible refine br_id ?_);((with_reducible refine br_dec (fun hx=>?_) (fun hx=>?_))<;>(try (exfalso;first|omega|contradiction))))|((with_reducible refine cl_id ?_);((refine cl_eq (hj) rfl rfl ?_;rintro e w ⟨rfl,hcc⟩;replace hp:=hp.call0 hcc;refine ⟨_,rfl,?_⟩))))<;>(conv=>whnf)))
  exact ps_val rfl ⟨rfl,hp.chg⟩
theorem asound_any {B:Nat} {w0:World} {x:Sta} (hs:StaAt B w0 x) (hBw:B≤w0.heap.size) (hf:FewI x) (hlv:∀j∈x.jobs.l, -9223372036854775808≤j.live∧j.live≤9223372036854775807) (hdep: -9223372036854775808≤x.cfg.dep∧x.cfg.dep≤9223372036854775807):Calls Tryz.prog 34 #[x.v] w0 fun e w'=>e= .returned (.bool (decide (((brokenS x).length:Int)=0)))∧Chg N0 w0 w':=by
 have hp:=Hp.start (S:=N0) w0
 have us:=Tryz.underlying76
 refine calls_x (args:= [_]) tabOk Tryz.func34 Tryz.ntmps34 Tryz.results34 rfl (Nat.le_of_ble_eq_true rfl) ?_
 ((conv=>whnf);repeat' ((first|((with_reducible refine ldn_id ?_);(apply lda_hs hp;(focus repeat' constructor);exact rfl))|((with_reducible refine al_id ?_);(refine al_cel hp ?_;clear hp;intro bb w hp)))<;>(conv=>whnf)))
 refine cl_eq (abroken_any (hs.keep hp.chg (fun _ hh=>hh.elim)) (Nat.le_trans hBw hp.chg.size) hf hlv hdep) rfl rfl ?_
 rintro e w ⟨L,hL,rfl,hm⟩
 replace hp:=hp.add hm
 clear hm
 refine ⟨_,rfl,?_⟩
 have hLl:L.l.length≤10:=by rw [hL];exact brkL_len _ _
 rw [←hL]
 ((conv=>whnf);repeat' (((with_reducible refine gen_id ?_);(apply gen_len;exact rfl;exact rfl;assumption))<;>(conv=>whnf)))
 all_goals first
  |exact ps_val rfl ⟨rfl,hp.chg⟩
theorem rtold37_any {B:Nat} {w0:World} {x:Sta} (hs:StaAt B w0 x) (hf:FewI x) (hlv:∀j∈x.jobs.l, -9223372036854775808≤j.live∧j.live≤9223372036854775807) (hdep: -9223372036854775808≤x.cfg.dep∧x.cfg.dep≤9223372036854775807):Calls Tryz.prog 32 #[x.v] w0 fun e w'=>e= .returned (str (toldS x))∧Chg N0 w0 w':=by
 have hp:=Hp.start (S:=N0) w0
 have us:=Tryz.underlying76
 have u2:=Tryz.underlying78
 refine calls_x (args:= [_]) tabOk Tryz.func32 Tryz.ntmps32 Tryz.results32 rfl (Nat.le_of_ble_eq_true rfl) ?_
 ((conv=>whnf);repeat' ((first|((with_reducible refine ldn_id ?_);(apply lda_hs hp;(focus repeat' constructor);exact rfl))|((with_reducible refine al_id ?_);(refine al_cel hp ?_;clear hp;intro bb w hp)))<;>(conv=>whnf)))
 obtain ⟨b1,hb1⟩:∃x,x=bb:=⟨_,rfl⟩
 subst hb1
 refine cl_eq (rbroken37_any (hs.keep hp.chg (fun _ hh=>hh.elim)) hf hlv hdep) rfl rfl ?_
 rintro e w ⟨L,hL,rfl,hm⟩
 replace hp:=hp.add hm
 clear hm
 refine ⟨_,rfl,?_⟩
 have hLl:L.l.length≤10:=by rw [hL];exact brkL_len _ _
 ((conv=>whnf);repeat' ((first|((with_reducible refine br_id ?_);first|(with_reducible refine br_t ?_)|(with_reducible refine br_f ?_)|(with_reducible refine br_not ?_)|((with_reducible refine br_dec (fun hx=>?_) (fun hx=>?_))<;>(try (exfalso;first|omega|contradiction)))|((with_reducible refine br_eq (fun hx=>?_) (fun hx=>?_))<;>(try (exfalso;first|omega|contradiction)))|((with_reducible refine br_ne (fun hx=>?_) (fun hx=>?_))<;>(try (exfalso;first|omega|contradiction)))|((with_reducible refine br_s (fun hx=>?_) (fun hx=>?_))<;>(try (exfalso;first|omega|contradiction))))|((with_reducible refine ar_id ?_);first|(refine ar_i64 (by omega) ?_)|(refine ar_u32 (by omega) ?_)|(refine ar_u64 (by omega) ?_)|(refine ar_u8 (by omega) ?_))|((with_reducible refine cn_id ?_);first|(refine cn rfl ?_)|(refine cn ‹_› ?_)|(refine cn (by omega) ?_)|(refine cn (Chg.refl _ _) ?_))|((with_reducible refine ld_id ?_);first|(apply ld_hs hp;(focus repeat' constructor);exact rfl)|(refine ld_of ‹_› ?_))|((with_reducible refine ldn_id ?_);first|(apply lda_hs hp;(focus repeat' constructor);exact rfl)|(apply ldn_hs hp;(focus repeat' constructor);exact rfl;exact rfl))|((with_reducible refine al_id ?_);(refine al_cel hp ?_;clear hp;intro bb w hp))|((with_reducible refine st_id ?_);first|(apply sta_hs hp;(focus repeat' constructor);exact rfl;exact rfl;clear hp;intro w hp;(try dsimp only [List.set] at hp))|(apply st_hs hp;(focus repeat' constructor);exact rfl;exact rfl;clear hp;intro w hp;(try dsimp only [List.set] at hp)))|((with_reducible refine gen_id ?_);first|(apply gen_build;exact rfl;exact rfl)|(apply gen_len;exact rfl;exact rfl;assumption)|(apply gen_min;exact rfl;exact rfl;exact rfl)|(apply gen_max;exact rfl;exact rfl;exact rfl)|(apply gen_ix;exact rfl;exact rfl;exact rfl;exact rfl;omega)|(apply gen_ixa;exact rfl;exact rfl;exact rfl;exact rfl;omega))|((with_reducible refine dr_id ?_);first|(refine dr_auto tabOk (by kernel_rfl) (by decide+kernel) ?_;(try replace hp:=hp.drew))|(refine dr_autog tabOk (by kernel_rfl) (by decide+kernel) ?_;(try replace hp:=hp.drew))|(refine dr_autot tabOk (by kernel_rfl) (by decide+kernel) ?_;(try replace hp:=hp.drew)))|((with_reducible refine fk_id ?_);(refine fk_mk ?_ ?_))|((with_reducible refine rd_id ?_);first|(apply rd_len;exact rfl;exact rfl;assumption)|(apply rd_ix;exact rfl;exact rfl;exact rfl;exact rfl;omega)))<;>(conv=>whnf)))
 refine lp_inv (α:=Nat) (fun i=> [(3,L.v),(4,str (joinL ((L.l.take i).map nameOf))),(5,i64 i)]) (fun i w=>i≤L.l.length∧Hp N0 w0 w [rowR 3 1 iL L,cel b1 31 x.c.toArray]) (fun i=>L.l.length - i) 0 (by (repeat' (first|exact trivial|(refine ⟨rfl,?_⟩)))) ⟨by omega,hp⟩ ?_
 clear hp
 rintro i e0 w ⟨hi,hp⟩
 dsimp only at hi hp ⊢
 rcases Nat.lt_or_ge i L.l.length with hlt|hge
 ·obtain ⟨b2,o2,v,hA2,hbb2,hrow2,hvv⟩:=(hp.row (j:=0) rfl).has hlt
  have hv:=brkL_mem (hL▸List.mem_of_getElem? hvv)
  obtain ⟨m,rfl⟩:∃m:Nat,v=(m:Int)+1:=⟨(v - 1).toNat,by omega⟩
  have hm10:m < 10:=by have:=hv.2;omega
  have hnm:=name_at hm10
  have hnx:=told_next hvv
  have hpl:=told_len (L.l.take i) (by rw [List.length_take];omega)
  have hnl:=nameOf_len ((m:Int)+1)
  obtain ⟨q,hq⟩:∃q,nameOf ((m:Int)+1)=q:=⟨_,rfl⟩
  obtain ⟨z,hz⟩:∃z,joinL ((L.l.take i).map nameOf)=z:=⟨_,rfl⟩
  rw [hq] at hnm hnx hnl
  rw [hz] at hnx hpl ⊢
  have hzl:(z++ [32]).length≤1000:=by rw [List.length_append];show _+1≤_;omega
  ((conv=>whnf);repeat' ((first|((with_reducible refine br_id ?_);((with_reducible refine br_dec (fun hx=>?_) (fun hx=>?_))<;>(try (exfalso;first|omega|contradiction))))|((with_reducible refine gen_id ?_);first|((refine gen_sadd rfl rfl rfl (by omega) (by show 1≤1000;omega) ?_))|(apply gen_len;exact rfl;exact rfl;assumption)))<;>(conv=>whnf)))
  ·refine dr_autos [] 1000 tabOk (by kernel_rfl) (by decide+kernel) ?_
   replace hp:=hp.drew
   have hi0:i≠0:=by omega
   ((conv=>whnf);repeat' ((first|((with_reducible refine ar_id ?_);(refine ar_i64 (by omega) ?_))|((with_reducible refine ld_id ?_);((refine ld_own0 hp 0 rfl hA2 i rfl hvv (by rfl) ?_)))|((with_reducible refine rd_id ?_);((refine rd_ixs rfl rfl hA2 rfl rfl (by omega) ?_))))<;>(conv=>whnf)))
   refine cl_eq (rnames_any _) rfl rfl ?_
   rintro e w ⟨rn,hrn,rfl,hmN⟩
   replace hp:=hp.add hmN
   refine ⟨_,rfl,?_⟩
   refine cn hmN.chg ?_
   clear hmN
   have hrl:rn.l.length=10:=by rw [hrn];rfl
   obtain ⟨b3,o3,y,hA3,hbb3,hrow3,hyy⟩:=(hp.row (j:=0) rfl).has (i:=m) (by omega)
   obtain rfl:y=q:=by rw [hrn,hnm] at hyy;exact (Option.some.inj hyy).symm
   ((conv=>whnf);repeat' ((first|((with_reducible refine ar_id ?_);(refine ar_i64 (by omega) ?_))|((with_reducible refine ld_id ?_);((refine ld_own0 hp 0 rfl hA3 m (by rw [show ((m:Int)+1 - 1).toNat=m by omega];rfl) hyy (by rfl) ?_)))|((with_reducible refine rd_id ?_);first|((refine rd_ixs rfl rfl hA3 rfl rfl (by omega) ?_))|((refine rd_sadd rfl rfl rfl hzl (by omega) ?_))))<;>(conv=>whnf)))
   all_goals first
    |(exfalso;omega)
    |exact lp_next (i+1) (by show L.l.length - (i+1) < L.l.length - i;omega) (by rw [hnx,if_neg hi0];(repeat' (first|exact trivial|(refine ⟨rfl,?_⟩)))) ⟨by show i+1≤_;omega,hp.tail⟩
  ·refine dr_autos [] 1000 tabOk (by kernel_rfl) (by decide+kernel) ?_
   replace hp:=hp.drew
   have hi0:i=0:=by omega
   have hz0:z= []:=by rw [←hz,hi0];rfl
   have hnx2:joinL ((L.l.take (i+1)).map nameOf)=z++q:=by rw [hnx,if_pos hi0,hz0];rfl
   ((conv=>whnf);repeat' ((first|((with_reducible refine ar_id ?_);(refine ar_i64 (by omega) ?_))|((with_reducible refine ld_id ?_);((refine ld_own0 hp 0 rfl hA2 i rfl hvv (by rfl) ?_)))|((with_reducible refine rd_id ?_);((refine rd_ixs rfl rfl hA2 rfl rfl (by omega) ?_))))<;>(conv=>whnf)))
   refine cl_eq (rnames_any _) rfl rfl ?_
   rintro e w ⟨rn,hrn,rfl,hmN⟩
   replace hp:=hp.add hmN
   refine ⟨_,rfl,?_⟩
   refine cn hmN.chg ?_
   clear hmN
   have hrl:rn.l.length=10:=by rw [hrn];rfl
   obtain ⟨b3,o3,y,hA3,hbb3,hrow3,hyy⟩:=(hp.row (j:=0) rfl).has (i:=m) (by omega)
   obtain rfl:y=q:=by rw [hrn,hnm] at hyy;exact (Option.some.inj hyy).symm
   ((conv=>whnf);repeat' ((first|((with_reducible refine ar_id ?_);(refine ar_i64 (by omega) ?_))|((with_reducible refine ld_id ?_);((refine ld_own0 hp 0 rfl hA3 m (by rw [show ((m:Int)+1 - 1).toNat=m by omega];rfl) hyy (by rfl) ?_)))|((with_reducible refine rd_id ?_);first|((refine rd_ixs rfl rfl hA3 rfl rfl (by omega) ?_))|((refine rd_sadd rfl rfl rfl (by omega) (by omega) ?_))))<;>(conv=>whnf)))
   all_goals first
    |(exfalso;omega)
    |exact lp_next (i+1) (by show L.l.length - (i+1) < L.l.length - i;omega) (by rw [hnx2];(repeat' (first|exact trivial|(refine ⟨rfl,?_⟩)))) ⟨by show i+1≤_;omega,hp.tail⟩
 ·rw [List.take_of_length_le hge]
  ((conv=>whnf);repeat' ((first|((with_reducible refine br_id ?_);((with_reducible refine br_dec (fun hx=>?_) (fun hx=>?_))<;>(try (exfalso;first|omega|contradiction))))|((with_reducible refine gen_id ?_);(apply gen_len;exact rfl;exact rfl;assumption)))<;>(conv=>whnf)))
  exact ps_val rfl ⟨by rw [hL];rfl,hp.chg⟩
end Go.Proofs.YteabebmlclgakaaGreat
/- Aud13: what the audit tells: the law. Of states of a bounded bulk. -/
namespace Go.Proofs.YteabebmlclgakaaGreat
open Go.RowKit
set_option maxRecDepth 100000
set_option maxHeartbeats 4000000
theorem brk_all (l:List Bool) (n:Nat):((brkL l n).all fun v=>decide (6 < v))=(List.range n).all fun k:Nat=>(l.getD k true|| decide (6 < (k:Int)+1)):=by
 unfold brkL
 rw [List.all_map,List.all_filter]
 congr 1
 funext k
 show (!(!(l.getD k true))|| decide (6 < (k:Int)+1))=_
 rw [Bool.not_not]
theorem right_told (x:Sta):((brokenS x).all fun v=>decide (6 < v))=rightS x:=by
 unfold brokenS ruleA rightS
 rw [brk_all]
 generalize soundC x.cfg=q0
 generalize chS x.cfg.dep x.ht x.win.l=q1
 generalize haltE x.halt=q2
 generalize sesS x.next x.cfg.ses x.ses.l=q3
 generalize blobS x.ses.l (x.blobs.l.map Blob.p)=q4
 generalize jobS x.ht x.jobs.l=q5
 generalize x.jobs.l.all (opnJ x)=q6
 generalize x.jobs.l.all (brcJ x)=q7
 generalize x.jobs.l.all (mndJ x)=q8
 generalize dueS x=q9
 cases q0<;>cases q1<;>cases q2<;>cases q3<;>cases q4<;>cases q5<;>cases q6<;>cases q7<;>cases q8<;>cases q9<;>rfl
theorem rd_neqS {P:Program} {w:World} {ρ:Operand→Value} {o:Oper} {g:Value→Prop} {t t2:TypeId} {x y:Operand} (hop:o.op= .binOp .neq t x y t2) {a b:List UInt8} (hx:ρ x=str a) (hy:ρ y=str b) (he:a=b) (hk:g (.bool false)):Rd P ρ o w g:=
 rd_streq hop hx hy (.inr rfl) (by rw [decide_eq_true he];exact hk)
theorem gen_eqS {P:Program} {w:World} {ρ:Operand→Value} {o:Oper} {g:Value→World→Prop} {t t2:TypeId} {x y:Operand} (hop:o.op= .binOp .eql t x y t2) {a b:List UInt8} (hx:ρ x=str a) (hy:ρ y=str b) (he:a=b) (hk:g (.bool true) w):Gen P ρ o w g:=by
 subst he
 have hg:eqGuard .eql t x y (str a) (str a)=pure ():=by simp [eqGuard]
 refine gen_bin hop (by rw [hx,hy];exact hg) ?_ hk
 rw [hx,hy]
 simp only [binOp_string_eql,bytes_eq,Sem.run_pure,decide_true]
abbrev zeroX:Sta:=⟨⟨0,0,0,0,0,0⟩,0,0,0,Sl.nil,Sl.nil,Sl.nil,Sl.nil⟩
theorem zero_told:toldS zeroX= [99,111,110,102,105,103,32,99,104,97,105,110]:=by rfl
theorem alive37_any (w0:World):Calls Tryz.prog 26 #[] w0 fun e w'=>e= .returned (.bool true)∧Chg N0 w0 w':=by
 have hp:=Hp.start (S:=N0) w0
 have ht:∀w:World,Calls Tryz.prog 31 #[zeroX.v] w fun e w'=>e= .returned (str [99,111,110,102,105,103,32,99,104,97,105,110])∧Chg N0 w w':=fun w=>by
  rw [←zero_told]
  exact atold_any (B:=w.heap.size) ⟨.none_,fun _ h=>(by cases h), .none_,⟨.none_,fun _ h=>(by cases h)⟩, .none_,fun _ h=>(by cases h)⟩ (Nat.le_refl _) ⟨by simp [Sl.nil],by simp [Sl.nil],by simp [Sl.nil],by simp [Sl.nil],fun _ h=>(by cases h),fun _ h=>(by cases h),fun _ h=>(by cases h)⟩ (fun _ h=>(by cases h)) ⟨by show (-9223372036854775808:Int)≤0;omega,by show (0:Int)≤9223372036854775807;omega⟩
 have h10:∀w:World,Calls Tryz.prog 33 #[i64 10] w fun e w'=>e= .returned (str [100,117,101])∧Chg N0 w w':=fun w=>aname_any w 10 ⟨by omega,by omega⟩
 have h11:∀w:World,Calls Tryz.prog 33 #[i64 11] w fun e w'=>e= .returned (str [])∧Chg N0 w w':=fun w=>aname_any w 11 ⟨by omega,by omega⟩
 refine calls_x (args:= []) tabOk Tryz.func26 Tryz.ntmps26 Tryz.results26 rfl (Nat.le_of_ble_eq_true rfl) ?_
 ((conv=>whnf);repeat' ((first|((with_reducible refine br_id ?_);(with_reducible refine br_t ?_))|((with_reducible refine gen_id ?_);first|((refine gen_eqS rfl rfl rfl rfl ?_))|(apply gen_build;exact rfl;exact rfl))|((with_reducible refine cl_id ?_);first|((refine cl_eq ((ht _)) rfl rfl ?_;rintro e w ⟨rfl,hcc⟩;replace hp:=hp.call0 hcc;refine ⟨_,rfl,?_⟩))|((refine cl_eq ((h10 _)) rfl rfl ?_;rintro e w ⟨rfl,hcc⟩;replace hp:=hp.call0 hcc;refine ⟨_,rfl,?_⟩))|((refine cl_eq ((h11 _)) rfl rfl ?_;rintro e w ⟨rfl,hcc⟩;replace hp:=hp.call0 hcc;refine ⟨_,rfl,?_⟩))))<;>(conv=>whnf)))
 exact ps_val (v':= .bool true) rfl ⟨rfl,hp.chg⟩
theorem rd_neqB {P:Program} {w:World} {ρ:Operand→Value} {o:Oper} {g:Value→Prop} {t t2:TypeId} {x y:Operand} (hop:o.op= .binOp .neq t x y t2) (ht:P.underlying t=some .bool) {a b:Bool} (hx:ρ x= .bool a) (hy:ρ y= .bool b) (he:a=b) (hk:g (.bool false)):Rd P ρ o w g:=by
 subst he
 have hg:eqGuard .neq t x y (.bool a) (.bool a)=pure ():=by simp [eqGuard]
 refine rd_bin hop (by rw [hx,hy];exact hg) (fun w'=>?_) hk
 rw [hx,hy]
 rw [run_neq_bool w' t a a ht]
 cases a<;>rfl
theorem auditTells_any {B:Nat} {w0:World} {x:Sta} (hs:StaAt B w0 x) (hb:StaB 1048576 x) (hBw:B≤w0.heap.size) (hlv:∀j∈x.jobs.l, -9223372036854775808≤j.live∧j.live≤9223372036854775807) (hdep: -9223372036854775808≤x.cfg.dep∧x.cfg.dep≤9223372036854775807) (n:Int) (hn: -9223372036854775808≤n∧n≤9223372036854775807):Calls Tryz.prog 6 #[x.v,i64 n] w0 fun e w'=>e= .returned (.bool true)∧Chg N0 w0 w':=by
 have hp:=Hp.start (S:=N0) w0
 have hB:∀b,N0 b→B≤b:=fun _ hh=>hh.elim
 have ubb:=Tryz.underlying4
 have us:=Tryz.underlying76
 have u2:=Tryz.underlying78
 have hfw:=fun {w:World} (hc:Chg N0 w0 w)=>few31_any (hs.keep hc hB) hb
 cases hq:fewS x with
 |false=>
  rw [hq] at hfw
  refine calls_x (args:= [_,_]) tabOk Tryz.func6 Tryz.ntmps6 Tryz.results6 rfl (Nat.le_of_ble_eq_true rfl) ?_
  ((conv=>whnf);repeat' ((first|((with_reducible refine br_id ?_);first|(with_reducible refine br_f ?_)|(with_reducible refine br_not ?_))|((with_reducible refine ldn_id ?_);(apply lda_hs hp;(focus repeat' constructor);exact rfl))|((with_reducible refine al_id ?_);(refine al_cel hp ?_;clear hp;intro bb w hp))|((with_reducible refine cl_id ?_);first|((refine cl_eq ((hfw hp.chg)) rfl rfl ?_;rintro e w ⟨rfl,hcc⟩;replace hp:=hp.call0 hcc;refine ⟨_,rfl,?_⟩))|((refine cl_eq ((alive37_any _)) rfl rfl ?_;rintro e w ⟨rfl,hcc⟩;replace hp:=hp.call0 hcc;refine ⟨_,rfl,?_⟩))))<;>(conv=>whnf)))
  exact ps_val (v':= .bool true) rfl ⟨rfl,hp.chg⟩
 |true=>
 rw [hq] at hfw
 have hf:=fewS_at hq
 refine calls_x (args:= [_,_]) tabOk Tryz.func6 Tryz.ntmps6 Tryz.results6 rfl (Nat.le_of_ble_eq_true rfl) ?_
 ((conv=>whnf);repeat' ((first|((with_reducible refine br_id ?_);first|(with_reducible refine br_t ?_)|(with_reducible refine br_not ?_))|((with_reducible refine ldn_id ?_);(apply lda_hs hp;(focus repeat' constructor);exact rfl))|((with_reducible refine al_id ?_);(refine al_cel hp ?_;clear hp;intro bb w hp))|((with_reducible refine cl_id ?_);((refine cl_eq ((hfw hp.chg)) rfl rfl ?_;rintro e w ⟨rfl,hcc⟩;replace hp:=hp.call0 hcc;refine ⟨_,rfl,?_⟩))))<;>(conv=>whnf)))
 obtain ⟨b2,hb2⟩:∃b,b=bb:=⟨_,rfl⟩
 subst hb2
 refine cl_eq (abroken_any (hs.keep hp.chg hB) (Nat.le_trans hBw hp.chg.size) hf hlv hdep) rfl rfl ?_
 rintro e w ⟨L,hL,rfl,hm⟩
 replace hp:=hp.add hm
 clear hm
 refine ⟨_,rfl,?_⟩
 have hLl:L.l.length≤10:=by rw [hL];exact brkL_len _ _
 apply lp_share (fun e w=>∃(e0:Nat→Value),e=eat [(2,ptr b2),(7, .bool true),(53,L.v),(54,i64 L.l.length),(55,i64 0)] ⟨e0, []⟩∧Hp N0 w0 w [rowR 3 1 iL L,cel b2 31 x.c.toArray])
 ·intro tail
  have hta:=fun {w:World} (hc:Chg N0 w0 w)=>atold_any (hs.keep hc hB) (Nat.le_trans hBw hc.size) hf hlv hdep
  have htr:=fun {w:World} (hc:Chg N0 w0 w)=>rtold37_any (hs.keep hc hB) hf hlv hdep
  have hso:=fun {w:World} (hc:Chg N0 w0 w)=>asound_any (hs.keep hc hB) (Nat.le_trans hBw hc.size) hf hlv hdep
  rw [←hL] at hso
  obtain ⟨T,hT⟩:∃T,toldS x=T:=⟨_,rfl⟩
  rw [hT] at hta htr
  clear hT
  obtain ⟨q,hQ⟩:∃q,nameQ n=q:=⟨_,rfl⟩
  have hna:=fun w=>aname_any w n hn
  rw [hQ] at hna
  by_cases hn10:1≤n∧n≤10
  ·have hnq:nameOf n=q:=(if_pos hn10).symm.trans hQ
   obtain ⟨m,hmn⟩:∃m:Nat,n=(m:Int)+1:=⟨(n - 1).toNat,by omega⟩
   have hm10:m < 10:=by omega
   have hnm:=name_at hm10
   rw [←hmn,hnq] at hnm
   ((conv=>whnf);repeat' (((with_reducible refine br_id ?_);first|(with_reducible refine br_t ?_)|((with_reducible refine br_dec (fun hx=>?_) (fun hx=>?_))<;>(try (exfalso;first|omega|contradiction))))<;>(conv=>whnf)))
   refine cl_eq (rnames_any _) rfl rfl ?_
   rintro e w ⟨rn,hrn,rfl,hmN⟩
   replace hp:=hp.add hmN
   clear hmN
   refine ⟨_,rfl,?_⟩
   have hrl:rn.l.length=10:=by rw [hrn];rfl
   obtain ⟨b3,o3,y,hA3,hbb3,hrow3,hyy⟩:=(hp.row (j:=0) rfl).has (i:=m) (by omega)
   obtain rfl:q=y:=by rw [hrn,hnm] at hyy;exact Option.some.inj hyy
   ((conv=>whnf);repeat' ((first|((with_reducible refine ar_id ?_);(refine ar_i64 (by omega) ?_))|((with_reducible refine ld_id ?_);((refine ld_own0 hp 0 rfl hA3 m (by rw [show (n - 1).toNat=m by omega];rfl) hyy (by rfl) ?_)))|((with_reducible refine gen_id ?_);((refine gen_ixs rfl rfl hA3 rfl rfl (by omega) ?_))))<;>(conv=>whnf)))
   replace hp:=hp.pick (rs':= [rowR 3 1 iL L,cel b2 31 x.c.toArray]) [1,2] (by decide) rfl
   refine dr_autos [] 1000 tabOk (by kernel_rfl) (by decide+kernel) ?_
   replace hp:=hp.drew
   ((conv=>whnf);repeat' (((with_reducible refine ldn_id ?_);(apply lda_hs hp;(focus repeat' constructor);exact rfl))<;>(conv=>whnf)))
   refine cl_eq (rbroken37_any (hs.keep hp.chg hB) hf hlv hdep) rfl rfl ?_
   rintro e w ⟨L2,hL2,rfl,hm2⟩
   replace hp:=hp.add hm2
   refine ⟨_,rfl,?_⟩
   refine cn hm2.chg ?_
   clear hm2
   have hi:=rints_any (hp.row (j:=1) rfl) (hp.row (j:=0) rfl)
   rw [decide_eq_true (hL.trans hL2.symm)] at hi
   by_cases h0:(L.l.length:Int)=0
   ·rw [decide_eq_true h0] at hso
    ((conv=>whnf);repeat' ((first|((with_reducible refine br_id ?_);first|(with_reducible refine br_t ?_)|(with_reducible refine br_f ?_)|(with_reducible refine br_not ?_))|((with_reducible refine cn_id ?_);(refine cn ‹_› ?_))|((with_reducible refine ldn_id ?_);(apply lda_hs hp;(focus repeat' constructor);exact rfl))|((with_reducible refine gen_id ?_);(apply gen_len;exact rfl;exact rfl;assumption))|((with_reducible refine cl_id ?_);first|((refine cl_eq (hi) rfl rfl ?_;rintro e w ⟨rfl,hcc⟩;replace hp:=hp.call0 hcc;refine ⟨_,rfl,?_⟩))|((refine cl_eq ((hta hp.chg)) rfl rfl ?_;rintro e w ⟨rfl,hcc⟩;replace hp:=hp.call0 hcc;refine ⟨_,rfl,?_⟩))|((refine cl_eq ((htr hp.chg)) rfl rfl ?_;rintro e w ⟨rfl,hcc⟩;replace hp:=hp.call0 hcc;refine ⟨_,rfl,?_⟩))|((refine cl_eq ((hna _)) rfl rfl ?_;rintro e w ⟨rfl,hcc⟩;replace hp:=hp.call0 hcc;refine ⟨_,rfl,?_⟩))|((refine cl_eq ((hso hp.chg)) rfl rfl ?_;rintro e w ⟨rfl,hcc⟩;replace hp:=hp.call0 hcc;refine ⟨_,rfl,?_⟩)))|((with_reducible refine rd_id ?_);first|((refine rd_neqS rfl rfl rfl rfl ?_))|((refine rd_neqB rfl ubb rfl rfl (decide_eq_true h0).symm ?_))|(apply rd_len;exact rfl;exact rfl;assumption)))<;>(conv=>whnf)))
    all_goals first
     |(exfalso;omega)
     |exact tail _ _ ⟨_,eat_holds (by (repeat' (first|exact trivial|(refine ⟨rfl,?_⟩)))),hp.pick (rs':= [_,_]) [1,2] (by decide) rfl⟩
   ·rw [decide_eq_false h0] at hso
    ((conv=>whnf);repeat' ((first|((with_reducible refine br_id ?_);first|(with_reducible refine br_t ?_)|(with_reducible refine br_f ?_)|(with_reducible refine br_not ?_))|((with_reducible refine cn_id ?_);(refine cn ‹_› ?_))|((with_reducible refine ldn_id ?_);(apply lda_hs hp;(focus repeat' constructor);exact rfl))|((with_reducible refine gen_id ?_);(apply gen_len;exact rfl;exact rfl;assumption))|((with_reducible refine cl_id ?_);first|((refine cl_eq (hi) rfl rfl ?_;rintro e w ⟨rfl,hcc⟩;replace hp:=hp.call0 hcc;refine ⟨_,rfl,?_⟩))|((refine cl_eq ((hta hp.chg)) rfl rfl ?_;rintro e w ⟨rfl,hcc⟩;replace hp:=hp.call0 hcc;refine ⟨_,rfl,?_⟩))|((refine cl_eq ((htr hp.chg)) rfl rfl ?_;rintro e w ⟨rfl,hcc⟩;replace hp:=hp.call0 hcc;refine ⟨_,rfl,?_⟩))|((refine cl_eq ((hna _)) rfl rfl ?_;rintro e w ⟨rfl,hcc⟩;replace hp:=hp.call0 hcc;refine ⟨_,rfl,?_⟩))|((refine cl_eq ((hso hp.chg)) rfl rfl ?_;rintro e w ⟨rfl,hcc⟩;replace hp:=hp.call0 hcc;refine ⟨_,rfl,?_⟩)))|((with_reducible refine rd_id ?_);first|((refine rd_neqS rfl rfl rfl rfl ?_))|((refine rd_neqB rfl ubb rfl rfl (decide_eq_false h0).symm ?_))|(apply rd_len;exact rfl;exact rfl;assumption)))<;>(conv=>whnf)))
    all_goals first
     |(exfalso;omega)
     |exact tail _ _ ⟨_,eat_holds (by (repeat' (first|exact trivial|(refine ⟨rfl,?_⟩)))),hp.pick (rs':= [_,_]) [1,2] (by decide) rfl⟩
  ·obtain rfl:q= []:=hQ.symm.trans (if_neg hn10)
   ((conv=>whnf);repeat' (((with_reducible refine br_id ?_);first|(with_reducible refine br_t ?_)|(with_reducible refine br_f ?_)|((with_reducible refine br_dec (fun hx=>?_) (fun hx=>?_))<;>(try (exfalso;first|omega|contradiction))))<;>(conv=>whnf)))
   all_goals first
    |(exfalso;omega)
    |skip
   all_goals
    refine dr_autos [] 1000 tabOk (by kernel_rfl) (by decide+kernel) ?_
    replace hp:=hp.drew
    ((conv=>whnf);repeat' (((with_reducible refine ldn_id ?_);(apply lda_hs hp;(focus repeat' constructor);exact rfl))<;>(conv=>whnf)))
    refine cl_eq (rbroken37_any (hs.keep hp.chg hB) hf hlv hdep) rfl rfl ?_
    rintro e w ⟨L2,hL2,rfl,hm2⟩
    replace hp:=hp.add hm2
    refine ⟨_,rfl,?_⟩
    refine cn hm2.chg ?_
    clear hm2
    have hi:=rints_any (hp.row (j:=1) rfl) (hp.row (j:=0) rfl)
    rw [decide_eq_true (hL.trans hL2.symm)] at hi
    by_cases h0:(L.l.length:Int)=0
    ·rw [decide_eq_true h0] at hso
     ((conv=>whnf);repeat' ((first|((with_reducible refine br_id ?_);first|(with_reducible refine br_t ?_)|(with_reducible refine br_f ?_)|(with_reducible refine br_not ?_))|((with_reducible refine cn_id ?_);(refine cn ‹_› ?_))|((with_reducible refine ldn_id ?_);(apply lda_hs hp;(focus repeat' constructor);exact rfl))|((with_reducible refine gen_id ?_);(apply gen_len;exact rfl;exact rfl;assumption))|((with_reducible refine cl_id ?_);first|((refine cl_eq (hi) rfl rfl ?_;rintro e w ⟨rfl,hcc⟩;replace hp:=hp.call0 hcc;refine ⟨_,rfl,?_⟩))|((refine cl_eq ((hta hp.chg)) rfl rfl ?_;rintro e w ⟨rfl,hcc⟩;replace hp:=hp.call0 hcc;refine ⟨_,rfl,?_⟩))|((refine cl_eq ((htr hp.chg)) rfl rfl ?_;rintro e w ⟨rfl,hcc⟩;replace hp:=hp.call0 hcc;refine ⟨_,rfl,?_⟩))|((refine cl_eq ((hna _)) rfl rfl ?_;rintro e w ⟨rfl,hcc⟩;replace hp:=hp.call0 hcc;refine ⟨_,rfl,?_⟩))|((refine cl_eq ((hso hp.chg)) rfl rfl ?_;rintro e w ⟨rfl,hcc⟩;replace hp:=hp.call0 hcc;refine ⟨_,rfl,?_⟩)))|((with_reducible refine rd_id ?_);first|((refine rd_neqS rfl rfl rfl rfl ?_))|((refine rd_neqB rfl ubb rfl rfl (decide_eq_true h0).symm ?_))|(apply rd_len;exact rfl;exact rfl;assumption)))<;>(conv=>whnf)))
     all_goals first
      |(exfalso;omega)
      |exact tail _ _ ⟨_,eat_holds (by (repeat' (first|exact trivial|(refine ⟨rfl,?_⟩)))),hp.pick (rs':= [_,_]) [1,2] (by decide) rfl⟩
    ·rw [decide_eq_false h0] at hso
     ((conv=>whnf);repeat' ((first|((with_reducible refine br_id ?_);first|(with_reducible refine br_t ?_)|(with_reducible refine br_f ?_)|(with_reducible refine br_not ?_))|((with_reducible refine cn_id ?_);(refine cn ‹_› ?_))|((with_reducible refine ldn_id ?_);(apply lda_hs hp;(focus repeat' constructor);exact rfl))|((with_reducible refine gen_id ?_);(apply gen_len;exact rfl;exact rfl;assumption))|((with_reducible refine cl_id ?_);first|((refine cl_eq (hi) rfl rfl ?_;rintro e w ⟨rfl,hcc⟩;replace hp:=hp.call0 hcc;refine ⟨_,rfl,?_⟩))|((refine cl_eq ((hta hp.chg)) rfl rfl ?_;rintro e w ⟨rfl,hcc⟩;replace hp:=hp.call0 hcc;refine ⟨_,rfl,?_⟩))|((refine cl_eq ((htr hp.chg)) rfl rfl ?_;rintro e w ⟨rfl,hcc⟩;replace hp:=hp.call0 hcc;refine ⟨_,rfl,?_⟩))|((refine cl_eq ((hna _)) rfl rfl ?_;rintro e w ⟨rfl,hcc⟩;replace hp:=hp.call0 hcc;refine ⟨_,rfl,?_⟩))|((refine cl_eq ((hso hp.chg)) rfl rfl ?_;rintro e w ⟨rfl,hcc⟩;replace hp:=hp.call0 hcc;refine ⟨_,rfl,?_⟩)))|((with_reducible refine rd_id ?_);first|((refine rd_neqS rfl rfl rfl rfl ?_))|((refine rd_neqB rfl ubb rfl rfl (decide_eq_false h0).symm ?_))|(apply rd_len;exact rfl;exact rfl;assumption)))<;>(conv=>whnf)))
     all_goals first
      |(exfalso;omega)
      |exact tail _ _ ⟨_,eat_holds (by (repeat' (first|exact trivial|(refine ⟨rfl,?_⟩)))),hp.pick (rs':= [_,_]) [1,2] (by decide) rfl⟩
 ·rintro e w ⟨e0,rfl,hp2⟩
  clear hfw
  have hR:=right_told x
  rw [←hL] at hR
  have hbr:=fun {w:World} (hc:Chg N0 w0 w)=>bright_any (hs.keep hc hB) (Nat.le_trans hBw hc.size) hf hlv
  refine lp_inv (α:=Nat) (fun i=> [(2,ptr b2),(7, .bool ((L.l.take i).all fun v=>decide (6 < v))),(53,L.v),(54,i64 L.l.length),(55,i64 i)]) (fun i w=>i≤L.l.length∧Hp N0 w0 w [rowR 3 1 iL L,cel b2 31 x.c.toArray]) (fun i=>L.l.length - i) 0 (by (repeat' (first|exact trivial|(refine ⟨rfl,?_⟩)))) ⟨by omega,hp2⟩ ?_
  clear hp2
  rintro i e0 w ⟨hi,hp⟩
  dsimp only at hi hp ⊢
  rcases Nat.lt_or_ge i L.l.length with hlt|hge
  ·obtain ⟨b4,o4,v,hA4,hbb4,hrow4,hvv⟩:=(hp.row (j:=0) rfl).has hlt
   have hvr:=brkL_mem (hL▸List.mem_of_getElem? hvv)
   have hst:((L.l.take (i+1)).all fun v=>decide (6 < v))=(((L.l.take i).all fun v=>decide (6 < v)) && decide (6 < v)):=by
    rw [List.take_add_one,hvv,List.all_append]
    show (_ && (decide (6 < v) && true))=_
    rw [Bool.and_true]
   obtain ⟨q,hq⟩:∃q,((L.l.take i).all fun v=>decide (6 < v))=q:=⟨_,rfl⟩
   rw [hq] at hst ⊢
   cases q with
   |false=>
    rw [Bool.false_and] at hst
    ((conv=>whnf);repeat' ((first|((with_reducible refine br_id ?_);first|(with_reducible refine br_f ?_)|((with_reducible refine br_dec (fun hx=>?_) (fun hx=>?_))<;>(try (exfalso;first|omega|contradiction))))|((with_reducible refine ar_id ?_);(refine ar_i64 (by omega) ?_))|((with_reducible refine ld_id ?_);((refine ld_own0 hp 0 rfl hA4 i rfl hvv (by rfl) ?_)))|((with_reducible refine gen_id ?_);((refine gen_ixs rfl rfl hA4 rfl rfl (by omega) ?_))))<;>(conv=>whnf)))
    exact lp_next (i+1) (by show L.l.length - (i+1) < L.l.length - i;omega) (by rw [hst];(repeat' (first|exact trivial|(refine ⟨rfl,?_⟩)))) ⟨by show i+1≤_;omega,hp⟩
   |true=>
    rw [Bool.true_and] at hst
    ((conv=>whnf);repeat' ((first|((with_reducible refine br_id ?_);first|(with_reducible refine br_t ?_)|((with_reducible refine br_dec (fun hx=>?_) (fun hx=>?_))<;>(try (exfalso;first|omega|contradiction))))|((with_reducible refine ar_id ?_);(refine ar_i64 (by omega) ?_))|((with_reducible refine ld_id ?_);((refine ld_own0 hp 0 rfl hA4 i rfl hvv (by rfl) ?_)))|((with_reducible refine gen_id ?_);((refine gen_ixs rfl rfl hA4 rfl rfl (by omega) ?_))))<;>(conv=>whnf)))
    all_goals first
     |(exfalso;omega)
     |exact lp_next (i+1) (by show L.l.length - (i+1) < L.l.length - i;omega) (by rw [hst];(repeat' (first|exact trivial|(refine ⟨rfl,?_⟩)))) ⟨by show i+1≤_;omega,hp⟩
     |exact lp_next (i+1) (by show L.l.length - (i+1) < L.l.length - i;omega) (by rw [hst,decide_eq_true (p:=6 < v) (by omega)];(repeat' (first|exact trivial|(refine ⟨rfl,?_⟩)))) ⟨by show i+1≤_;omega,hp⟩
     |exact lp_next (i+1) (by show L.l.length - (i+1) < L.l.length - i;omega) (by rw [hst,decide_eq_false (p:=6 < v) (by omega)];(repeat' (first|exact trivial|(refine ⟨rfl,?_⟩)))) ⟨by show i+1≤_;omega,hp⟩
  ·rw [List.take_of_length_le hge,hR]
   obtain ⟨q,hq⟩:∃q,rightS x=q:=⟨_,rfl⟩
   rw [hq] at hbr ⊢
   cases q with
   |false=>
    have hqq:(false==false)=true:=rfl
    ((conv=>whnf);repeat' ((first|((with_reducible refine br_id ?_);first|((with_reducible refine br_1 hqq ?_))|(with_reducible refine br_t ?_)|((with_reducible refine br_dec (fun hx=>?_) (fun hx=>?_))<;>(try (exfalso;first|omega|contradiction))))|((with_reducible refine ldn_id ?_);(apply lda_hs hp;(focus repeat' constructor);exact rfl))|((with_reducible refine cl_id ?_);first|((refine cl_eq ((hbr hp.chg)) rfl rfl ?_;rintro e w ⟨rfl,hcc⟩;replace hp:=hp.call0 hcc;refine ⟨_,rfl,?_⟩))|((refine cl_eq ((alive37_any _)) rfl rfl ?_;rintro e w ⟨rfl,hcc⟩;replace hp:=hp.call0 hcc;refine ⟨_,rfl,?_⟩))))<;>(conv=>whnf)))
    all_goals first
     |(exfalso;omega)
     |exact ps_val (v':= .bool true) rfl ⟨rfl,hp.chg⟩
   |true=>
    have hqq:(true==true)=true:=rfl
    ((conv=>whnf);repeat' ((first|((with_reducible refine br_id ?_);first|((with_reducible refine br_1 hqq ?_))|(with_reducible refine br_t ?_)|((with_reducible refine br_dec (fun hx=>?_) (fun hx=>?_))<;>(try (exfalso;first|omega|contradiction))))|((with_reducible refine ldn_id ?_);(apply lda_hs hp;(focus repeat' constructor);exact rfl))|((with_reducible refine cl_id ?_);first|((refine cl_eq ((hbr hp.chg)) rfl rfl ?_;rintro e w ⟨rfl,hcc⟩;replace hp:=hp.call0 hcc;refine ⟨_,rfl,?_⟩))|((refine cl_eq ((alive37_any _)) rfl rfl ?_;rintro e w ⟨rfl,hcc⟩;replace hp:=hp.call0 hcc;refine ⟨_,rfl,?_⟩))))<;>(conv=>whnf)))
    all_goals first
     |(exfalso;omega)
     |exact ps_val (v':= .bool true) rfl ⟨rfl,hp.chg⟩
end Go.Proofs.YteabebmlclgakaaGreat
