/- MAuditTells11: TailU, Range, HintG, Plc. -/
import Derived.Test.YteabebmlclgakaaGreatMAuditTells8
import Derived.Test.YteabebmlclgakaaGreatMAuditTellssSlice
import Derived.Maps.RangeRun
import Derived.Test.YteabebmlclgakaaGreatMAuditTells9
import Derived.Test.YteabebmlclgakaaGreatMAuditTells7
import Derived.Test.YteabebmlclgakaaGreatMAuditTellssTailS
set_option linter.unusedSimpArgs false
set_option linter.unusedVariables false
/- TailU: a region that draws its order, in which stores into what it has made may come before it has read all. No condition. -/
namespace Go.Proofs.YteabebmlclgakaaGreat
open Go.RowKit
section
variable {P : Program} {ops : Array Oper} {Q : Exit → Act → World → Prop}
theorem He.world {P:Program} {ops:Array Oper} {ws:World} {C:Prop} {T:Act→Prop}:∀{hs:List Nat} {a:Act},He P ops ws (fun a'=>C∧T a') hs a→C
 | [],_,h=>h.1
 |_::_,_,⟨_,_,_,_,hr⟩=>He.world hr
theorem He.move {P:Program} {ops:Array Oper} {w1 w2:World} {K:Act→Prop}:∀{hs:List Nat} {a:Act},(∀j∈hs,∀oj,ops[j]? =some oj→pOp oj.op=true)→He P ops w1 K hs a→He P ops w2 K hs a
 | [],_,_,h=>h
 |j::_,_,hp,⟨o,v,ho,hy,hr⟩=>⟨o,v,ho,hy.imp (fun ⟨h1,h2⟩=>⟨h1,fun w' _=>pOp_run (hp j (by simp) o ho) (h2 w1 (Chg.refl _ _)) w'⟩) id,He.move (fun j' hj'=>hp j' (by simp [hj'])) hr⟩
theorem He.allocU {ws w:World} (hsel:∀(j:Nat) (o:Oper) cs b,ops[j]? =some o→o.op≠ .select cs b) (hP:∀c a w,¬Q (.panic c) a w) {i:Nat} {oi:Oper} (hi:ops[i]? =some oi) (T:Act→World→Prop):∀(hs:List Nat) (a:Act),
  (∀j∈hs,∀oj,ops[j]? =some oj→oj.apart ops oi=true)→He P ops ws (fun a'=>wpOp P ops Q i (fun a1 w1=>a1.defers=a'.defers∧T a1 w1) a' w) hs a→wpOp P ops Q i (fun a1 w1=>a1.defers=a.defers∧He P ops ws (fun a'=>T a' w1) hs a1) a w
 | [],_,_,h=>h
 |j::hs,a,hap,⟨o,v,ho,hy,hr⟩=>by
  have ih:=He.allocU hsel hP hi T hs _ (fun j' hj'=>hap j' (by simp [hj'])) hr
  obtain ⟨h1,h2,h3⟩:=Oper.apart_spec (hap j (by simp) o ho)
  have fin:∀u w1,He P ops ws (fun a'=>T a' w1) hs ((a.put o.dst v).put oi.dst u)→(a.put oi.dst u).defers=a.defers∧He P ops ws (fun a'=>T a' w1) (j::hs) (a.put oi.dst u):=fun u w1 hh=>
   ⟨put_defers _ _ _,o,v,ho,hy.put (fun cs b=>hsel j o cs b ho) h3,by rw [←Act.put_comm a v u h2];exact hh⟩
  unfold wpOp at ih ⊢
  simp only [hi] at ih ⊢
  rw [wanted_put oi a o.dst v h1] at ih
  split at ih
  ·rename_i hw
   rw [if_pos hw]
   rcases ih with ih|⟨hasks,hl⟩
   ·refine .inl ?_
    unfold Oper.wp at ih ⊢
    rw [execOp_put oi (fun cs b=>hsel i oi cs b hi) a o.dst v h1] at ih
    generalize (execOp a.eval oi).run P w=r at ih ⊢
    cases r with
    |ok nx w'=>
     cases nx<;>simp only [Oper.upon] at ih ⊢ <;>first
      |exact fin _ _ ih.2
      |(have h4:=ih.1
        simp at h4
        done)
      |exact Rows.mono ih fun u w'' he=>fin _ _ he.2
      |(refine Calls.mono ih fun e w'' he=>?_
        cases e with
        |returned u=>exact fin _ _ he.2
        |panicked c=>exact (hP _ _ _ he).elim
        |outgrown=>exact he)
    |halt x w'=>
     cases x<;>simp only [Oper.upon] at ih
     exact (hP _ _ _ ih).elim
   ·refine .inr ⟨?_,hl⟩
    unfold Oper.asks at hasks ⊢
    rw [execOp_put oi (fun cs b=>hsel i oi cs b hi) a o.dst v h1] at hasks
    exact hasks
  ·rename_i hw
   rw [if_neg hw]
   exact fin undef w ih.2
def wpU (P:Program) (ops:Array Oper) (Q:Exit→Act→World→Prop) (gf:Nat→Bool) (ws:World):Nat→List Nat→Act→World→Prop
 |0,_,_,_=>False
 |_+1, [],a,w=>Q .normal a w
 |fuel+1,ts,a,w=>∀i∈rdyT ops ts,wpOp P ops Q i (fun a1 w1=>(gf i=true→Chg N0 ws w1∧a1.defers=a.defers)∧wpU P ops Q gf ws fuel (ts.filter fun j=> !Nat.beq j i) a1 w1) a w
theorem mix_anyU {p gf:Nat→Bool} {b:Array Nat} (M:MixT ops p gf b) {ws:World} (hP:∀c a w,¬Q (.panic c) a w):∀(fuel:Nat) (listed:Array Bool) (hs ts:List Nat) (k:Nat) (a:Act) (w:World),
  listed.size=ops.size→hs.length+ts.length≤fuel→hs.Pairwise (· < ·)→ts.Nodup→(∀i,i < ops.size→(listed.getD i true=false↔i∈hs∨i∈ts))→(∀i∈hs,p i=true∧i < ops.size)→(∀i∈ts,p i=false∧i < ops.size)→
  (∀x y,listed.getD x false=true→x < ops.size→(b.getD x 0).testBit y=true→y < ops.size→listed.getD y false=true)→
  (Chg N0 ws w∨∀j∈hs,∀oj,ops[j]? =some oj→pOp oj.op=true)→He P ops ws (fun a'=>wpU P ops Q gf ws k ts a' w) hs a→wpAny P .any ops Q fuel listed a w:=by
 intro fuel
 induction fuel with
 |zero=>
  intro listed hs ts k a w hsz hf _ _ hun _ _ _ _ h
  obtain ⟨h1,h2⟩:hs= []∧ts= []:=by
   constructor<;>exact List.eq_nil_of_length_eq_zero (by omega)
  subst h1 h2
  have h:wpU P ops Q gf ws k [] a w:=h
  refine ⟨?_,by cases k with|zero=>exact h.elim|succ k=>exact h⟩
  rw [List.eq_nil_iff_forall_not_mem]
  intro i hi
  obtain ⟨h0,o,ho,_⟩:=mem_ready.1 hi
  have:=(hun i (Array.getElem?_eq_some_iff.1 ho).1).1 h0
  simp at this
 |succ fuel ih=>
  intro listed hs ts k a w hsz hf hpw hpt hun hhs hts hcl hinv h
  have hlist:∀i,i < ops.size→(listed.getD i true=false)→listed.getD i false=false:=fun i hi h0=>getD_both h0
  refine ⟨fun hr=>?_,fun i hi=>?_⟩
  ·
   have hempty:∀x,x∉hs++ts:=by
    intro x hx
    have key:∀m x,x=m→x∈hs++ts→False:=by
     intro m
     induction m using Nat.strongRecOn with
     |_ m ihm=>
      intro x hxm hx
      have hxl:x < ops.size:=by
       rcases List.mem_append.1 hx with h1|h1
       ·exact (hhs x h1).2
       ·exact (hts x h1).2
      have hxo:ops[x]? =some ops[x]:=Array.getElem?_eq_getElem hxl
      have:x∈Region.ready .any ops listed:=by
       refine mem_ready.2 ⟨(hun x hxl).2 (List.mem_append.1 hx),ops[x],hxo,fun e he hb=>?_⟩
       have hlt:=M.back x _ hxo e he hb
       cases hle:listed.getD e.on false with
       |true=>rfl
       |false=>
        have hel:e.on < ops.size:=by omega
        have hun':listed.getD e.on true=false:=getD_in (by omega) hle
        exact (ihm e.on (by omega) e.on rfl (List.mem_append.2 ((hun e.on hel).1 hun'))).elim
      rw [hr] at this
      cases this
    exact key x x rfl hx
   have h1:hs= []:=List.eq_nil_iff_forall_not_mem.2 fun x hx=>hempty x (List.mem_append.2 (.inl hx))
   have h2:ts= []:=List.eq_nil_iff_forall_not_mem.2 fun x hx=>hempty x (List.mem_append.2 (.inr hx))
   subst h1 h2
   have h:wpU P ops Q gf ws k [] a w:=h
   cases k with
   |zero=>exact h.elim
   |succ k=>exact h
  ·obtain ⟨h0,oi,hoi,hall⟩:=mem_ready.1 hi
   have hil:i < ops.size:=(Array.getElem?_eq_some_iff.1 hoi).1
   have hdep:∀y,(b.getD i 0).testBit y=true→y < ops.size→listed.getD y false=true:=fun y hy hys=>by
    obtain ⟨e,he,hb,h1⟩:=M.dep i oi hoi y hy hys
    have h2:=hall e he hb
    rcases h1 with rfl|h1
    ·exact h2
    ·have:=M.back i oi hoi e he hb
     exact hcl e.on y h2 (by omega) h1 hys
   have hcl':∀x y,(listed.setIfInBounds i true).getD x false=true→x < ops.size→(b.getD x 0).testBit y=true→y < ops.size→(listed.setIfInBounds i true).getD y false=true:=fun x y hx hxs hy hys=>by
    by_cases hxi:i=x
    ·subst hxi;exact getD_set_true (hdep y hy hys)
    ·rw [getD_set_ne false hxi] at hx
     exact getD_set_true (hcl x y hx hxs hy hys)
   have hsz':(listed.setIfInBounds i true).size=ops.size:=by simp [hsz]
   have hset:∀x,x < ops.size→((listed.setIfInBounds i true).getD x true=false↔listed.getD x true=false∧x≠i):=fun x hx=>by
    by_cases hxi:i=x
    ·subst hxi
     have:i < listed.size:=by omega
     simp [this]
    ·rw [getD_set_ne true hxi]
     exact ⟨fun h=>⟨h,fun e=>hxi e.symm⟩,fun h=>h.1⟩
   rcases (hun i hil).1 h0 with hm|hm
   ·
    obtain ⟨pre,post,rfl⟩:=List.append_of_mem hm
    have hpw':=hpw
    rw [List.pairwise_append] at hpw'
    have hlt:∀j∈pre,j < i:=fun j hj=>hpw'.2.2 j hj i (by simp)
    have hap:∀j∈pre,∀oj,ops[j]? =some oj→oj.apart ops oi=true:=fun j hj oj hoj=>by
     rcases M.heads i j oi oj (hhs i hm).1 (hhs j (by simp [hj])).1 (hlt j hj) hoi hoj with ⟨e,he,hb,rfl⟩|h1
     ·have h2:=hall e he hb
      have h3:=(hun e.on (Array.getElem?_eq_some_iff.1 hoj).1).2 (.inl (by simp [hj]))
      rw [getD_both h3] at h2
      cases h2
     ·exact h1
    obtain ⟨v,hy,hr⟩:=He.front M.sel hoi post pre a hap h
    have hinv':Chg N0 ws w∨∀j∈pre++post,∀oj,ops[j]? =some oj→pOp oj.op=true:=hinv.imp id fun h j hj=>h j (by rcases List.mem_append.1 hj with h1|h1<;>simp [h1])
    have hK:wpAny P .any ops Q fuel (listed.setIfInBounds i true) (a.put oi.dst v) w:=by
     have hsub:(pre++post).Sublist (pre++i::post):=List.Sublist.append_left (List.sublist_cons_self _ _) _
     have hni:i∉pre++post++ts:=by
      intro hx
      rcases List.mem_append.1 hx with h1|h1
      ·rcases List.mem_append.1 h1 with h1|h1
       ·have:=hlt i h1;omega
       ·have h2:=hpw'.2.1
        rw [List.pairwise_cons] at h2
        have:=h2.1 i h1
        omega
      ·have h2:=(hhs i hm).1
       rw [(hts i h1).1] at h2
       cases h2
     refine ih _ (pre++post) ts k _ w hsz' (by simp at hf ⊢;omega) (hpw.sublist hsub) hpt (fun x hx=>?_) (fun x hx=>hhs x (by rcases List.mem_append.1 hx with h1|h1<;>simp [h1])) hts hcl' hinv' hr
     rw [hset x hx,hun x hx]
     constructor
     ·rintro ⟨h1|h1,h2⟩
      ·left
       rcases List.mem_append.1 h1 with h3|h3
       ·simp [h3]
       ·rcases List.mem_cons.1 h3 with h4|h4
        ·exact (h2 h4).elim
        ·simp [h4]
      ·exact .inr h1
     ·intro h1
      refine ⟨h1.imp (fun h2=>by rcases List.mem_append.1 h2 with h3|h3<;>simp [h3]) id,fun e=>?_⟩
      subst e
      exact hni (List.mem_append.2 h1)
    unfold wpOp
    simp only [hoi]
    rcases hy with ⟨hw,hv⟩|⟨hw,rfl⟩
    ·rw [if_pos hw]
     refine .inl ?_
     unfold Oper.wp
     have hvw:(execOp a.eval oi).run P w= .ok (.value v) w:=by
      rcases hinv with hc|hpo
      ·exact hv w hc
      ·exact pOp_run (hpo i hm oi hoi) (hv ws (Chg.refl _ _)) w
     rw [hvw]
     exact hK
    ·rw [if_neg (by rw [hw];simp)]
     exact hK
   ·
    obtain ⟨hni,_⟩:=hts i hm
    have hrd:i∈rdyT ops ts:=List.mem_filter.2 ⟨hm,by
     rw [hoi]
     refine List.all_eq_true.2 fun e he=>?_
     cases hb:Region.binds .any e with
     |false=>rfl
     |true=>
      have h1:=hall e (Array.mem_toList_iff.1 he) hb
      have h2:e.on∉ts:=fun hx=>by
       have h3:=(hun e.on (hts _ hx).2).2 (.inr hx)
       rw [getD_both h3] at h1
       cases h1
      simpa using h2⟩
    have hni2:i∉hs:=fun h1=>by
     have h2:=(hhs i h1).1
     rw [hni] at h2
     cases h2
    have hmem:∀x,x∈ts.filter (fun j=> !Nat.beq j i)↔x∈ts∧x≠i:=fun x=>by
     rw [List.mem_filter]
     refine and_congr_right fun _=>?_
     cases hb:Nat.beq x i with
     |true=>simp [Nat.eq_of_beq_eq_true hb]
     |false=>simp [Nat.ne_of_beq_eq_false hb]
    have hlen:(ts.filter fun j=> !Nat.beq j i).length < ts.length:=List.length_filter_lt_length_iff_exists.2 ⟨i,hm,by simp⟩
    have next:∀a1 w1,(Chg N0 ws w1∨∀j∈hs,∀oj,ops[j]? =some oj→pOp oj.op=true)→He P ops ws (fun a'=>wpU P ops Q gf ws (k - 1) (ts.filter fun j=> !Nat.beq j i) a' w1) hs a1→wpAny P .any ops Q fuel (listed.setIfInBounds i true) a1 w1:=fun a1 w1 hv hh=>by
     refine ih _ hs (ts.filter fun j=> !Nat.beq j i) (k - 1) a1 w1 hsz' (by omega) hpw (hpt.filter _) (fun x hx=>?_) hhs (fun x hx=>hts x ((hmem x).1 hx).1) hcl' hv hh
     rw [hset x hx,hun x hx,hmem x]
     constructor
     ·rintro ⟨h1|h1,h2⟩
      ·exact .inl h1
      ·exact .inr ⟨h1,h2⟩
     ·rintro (h1|h1)
      ·exact ⟨.inl h1,fun e=>hni2 (e▸h1)⟩
      ·exact ⟨.inr h1.1,h1.2⟩
    have h1:He P ops ws (fun a'=>wpOp P ops Q i (fun a1 w1=>(gf i=true→Chg N0 ws w1∧a1.defers=a'.defers)∧wpU P ops Q gf ws (k - 1) (ts.filter fun j=> !Nat.beq j i) a1 w1) a' w) hs a:=He.mono (fun a' h2=>by
     cases k with
     |zero=>exact h2.elim
     |succ k=>
      cases ts with
      |nil=>cases hm
      |cons t0 ts0=>exact h2 i hrd) _ _ h
    have hA:∀j∈hs,∀oj,ops[j]? =some oj→(aOp oi.op=true∨pOp oj.op=true∨gf i=true)∧oj.apart ops oi=true:=fun j hj oj hoj=>by
     have hjn:=hhs j hj
     rcases M.tails i j oi oj hni hjn.1 hoi hoj with h1|h1
     ·have hjs:j < ops.size:=hjn.2
      have h2:=hdep j h1 hjs
      have h3:=(hun j hjs).2 (.inl hj)
      rw [getD_both h3] at h2
      cases h2
     ·exact h1
    cases hAi:aOp oi.op with
    |true=>
     have h2:=He.allocU (ws:=ws) M.sel hP hoi (fun a1 w1=>Chg N0 w w1∧wpU P ops Q gf ws (k - 1) (ts.filter fun j=> !Nat.beq j i) a1 w1) hs a (fun j hj oj hoj=>(hA j hj oj hoj).2) (He.mono (fun a' h2=>wpOp_mono (fun a1 w1 (h3:CD a' w a1 w1∧_)=>⟨h3.1.2,h3.1.1,h3.2⟩) (wpOp_aOp hP hoi hAi (wpOp_mono (fun a1 w1 h3=>h3.2) h2))) _ _ h1)
     refine wpOp_mono (fun a1 w1 h3=>?_) h2
     have h4:Chg N0 w w1:=He.world h3.2
     exact next a1 w1 (hinv.imp (fun h5=>h5.trans0 h4) id) (He.mono (fun a' h5=>h5.2) _ _ h3.2)
    |false=>
     cases hGi:gf i with
     |true=>
      have h2:=He.allocU (ws:=ws) M.sel hP hoi (fun a1 w1=>Chg N0 ws w1∧wpU P ops Q gf ws (k - 1) (ts.filter fun j=> !Nat.beq j i) a1 w1) hs a (fun j hj oj hoj=>(hA j hj oj hoj).2) (He.mono (fun a' h2=>wpOp_mono (fun a1 w1 h3=>⟨(h3.1 hGi).2,(h3.1 hGi).1,h3.2⟩) h2) _ _ h1)
      refine wpOp_mono (fun a1 w1 h3=>?_) h2
      exact next a1 w1 (.inl (He.world h3.2)) (He.mono (fun a' h5=>h5.2) _ _ h3.2)
     |false=>
      have hpo:∀j∈hs,∀oj,ops[j]? =some oj→pOp oj.op=true:=fun j hj oj hoj=>((hA j hj oj hoj).1.resolve_left (by rw [hAi];simp)).resolve_right (by rw [hGi];simp)
      have h2:=He.tail M.sel hP hoi (wpU P ops Q gf ws (k - 1) (ts.filter fun j=> !Nat.beq j i)) hs a (fun j hj oj hoj=>⟨hpo j hj oj hoj,(hA j hj oj hoj).2⟩) (He.move hpo (He.mono (fun a' h2=>wpOp_mono (fun a1 w1 h3=>h3.2) h2) _ _ h1))
      exact wpOp_mono (fun a1 w1 h3=>next a1 w1 (.inr hpo) (He.move hpo h3)) h2
end
def gOp2 (o:Op):Bool:=gOp o|| match o with| .store .. =>true|_=>false
def gAt2 (ops:Array Oper) (i:Nat):Bool:=match ops[i]? with|some o=>gOp2 o.op && o.guard.isNone|none=>false
def xuF (T:Tb) (P:Program) (n:Nat) (ops:Array Oper) (gf:Nat→Bool) (ws:World) (K:Env→World→Prop) (ih:List Nat→Env→World→Prop) (ts:List Nat) (e:Env) (w:World):Prop:=
 match ts with
 | []=>K e w
 |t0::r=>conjL (fun i=>match ops[i]? with
  |some o=>bif gf i then xo T P (ev n e) o w fun v w'=>Cn (Chg N0 ws w') (fcv v fun v=>fnl ((t0::r).filter fun j=> !Nat.beq j i) fun ts'=>ih ts' (eup e o.dst v) w')
   else xl0 T P n ops (fun e' w'=>fnl ((t0::r).filter fun j=> !Nat.beq j i) fun ts'=>ih ts' e' w') [o] e w
  |none=>False) (rdyT ops (t0::r))
def xu (T:Tb) (P:Program) (n:Nat) (ops:Array Oper) (gf:Nat→Bool) (ws:World) (K:Env→World→Prop) (fuel:Nat):List Nat→Env→World→Prop:=
 Nat.rec (motive:=fun _=>List Nat→Env→World→Prop) (fun _ _ _=>False) (fun _ ih=>xuF T P n ops gf ws K ih) fuel
theorem xu_sound {P:Program} {T:Tb} (hT:TabOk P T) {n:Nat} {ops:Array Oper} {gf:Nat→Bool} {ws:World} {K:Env→World→Prop} {Q:Exit→Act→World→Prop} (hgf:∀i,gf i=true→gAt2 ops i=true) (hQ:∀e a w,Rel n e a→K e w→Q .normal a w):
  ∀(fuel:Nat) (ts:List Nat) (e:Env) (a:Act) (w:World),Rel n e a→xu T P n ops gf ws K fuel ts e w→wpU P ops Q gf ws fuel ts a w
 |0,_,_,_,_,_,h=>h.elim
 |_+1, [],e,a,w,hr,h=>hQ e a w hr h
 |fuel+1,t0::r,e,a,w,hr,h=>by
  have ih:=fun ts e a w=>xu_sound (ws:=ws) hT hgf hQ fuel ts e a w
  intro i hi
  have h1:=conjL_all (show conjL _ (rdyT ops (t0::r)) from h) i hi
  unfold wpOp
  cases ho:ops[i]? with
  |none=>rw [ho] at h1;exact h1.elim
  |some o=>
   rw [ho] at h1
   simp only at h1 ⊢
   cases hg:gf i with
   |true=>
    rw [hg] at h1
    simp only [cond_true] at h1
    have hgn:o.guard=none:=by
     have:=hgf i hg
     unfold gAt2 at this
     rw [ho] at this
     simp only [Bool.and_eq_true,Option.isNone_iff_eq_none] at this
     exact this.2
    rw [if_pos (by simp [Region.wanted,hgn])]
    exact .inl (gen_wp hr (xo_sound hT h1) fun v w' hx=>⟨fun _=>⟨hx.1,put_defers _ _ _⟩,ih _ _ _ _ (hr.put _ _) (by have h2:=hx.2;rw [fcv_eq,fnl_eq] at h2;exact h2)⟩)
   |false=>
    rw [hg] at h1
    simp only [cond_false] at h1
    exact xl_one hT (fun e1 a1 w1 hr1 hx1=>⟨fun hh=>(by cases hh),ih _ _ _ _ hr1 (by rw [fnl_eq] at hx1;exact hx1)⟩) hr h1
def lastG2 (ops:Array Oper):Nat:=(List.range ops.size).foldl (fun m i=>bif gAt2 ops i then i else m) 0
def gBut2 (ops:Array Oper) (i:Nat):Bool:=gAt2 ops i && !Nat.beq i (lastG2 ops)
theorem gBut2_at {ops:Array Oper} (i:Nat) (h:gBut2 ops i=true):gAt2 ops i=true:=by
 unfold gBut2 at h
 simp only [Bool.and_eq_true] at h
 exact h.1
theorem dr_autou {P:Program} {T:Tb} (hT:TabOk P T) {n:Nat} {id:Nat} {l:List Oper} {K:Exit→Env→World→Prop} {e:Env} {w:World} (hm:P.follows .mixedOrders=true) (hB:mixTB l.toArray (isHead (heads l 0 [])) (gBut2 l.toArray)=true)
  (h:xrs T P n l.toArray w.drew (fun _ e'=>fnl (tlix l) fun ts=>xu T P n l.toArray (gBut2 l.toArray) w.drew (fun e w=>K .normal e w) (l.length+1) ts e' w.drew) l 0 [] [] e):Dr P n (.region id l.toArray true) K e w:=by
 refine dr_of fun rr a hfl hr=>?_
 have M:=mixT_of hB
 generalize hp:isHead (heads l 0 [])=p at M
 refine Code.wpIn_mono (Q:=QX n (fun ex e w=>match ex with| .panic _=>False| .outgrown=>False|ex=>K ex e w)) ?_ ?_
 ·rintro ex a' w' ⟨e',hr',hk⟩
  cases ex<;>first
   |exact ⟨e',hr',hk⟩
   |exact hk.elim
 have hin:∀q:Nat→Bool,∀i∈(List.range l.length).filter q,q i=true∧i < l.length:=fun q i hi=>by
  have:=List.mem_filter.1 hi
  exact ⟨this.2,List.mem_range.1 this.1⟩
 have hlen:∀l:List Nat,(l.filter p).length+(l.filter fun i=> !p i).length=l.length:=fun l=>by
  induction l with
  |nil=>rfl
  |cons x r ih=>cases hx:p x<;>simp [hx]<;>omega
 refine region_in hfl (fun _ _ ⟨_,_,h⟩=>h) hm (mix_anyU M (ws:=w.drew) (fun c a w ⟨e,_,hk⟩=>hk) _ _ ((List.range l.length).filter p) ((List.range l.length).filter fun i=> !p i) (l.length+1) a _ (by simp) (by have:=hlen (List.range l.length);simp at this ⊢;omega)
  (List.pairwise_lt_range.sublist List.filter_sublist) ((List.nodup_range).sublist List.filter_sublist) (fun i hi=>?_) (fun i hi=>by simpa using hin p i hi) (fun i hi=>by simpa using hin (fun i=> !p i) i hi) (fun x y hx=>?_) (.inl (Chg.refl _ _)) ?_)
 ·have hi':i < l.length:=by simpa using hi
  constructor
  ·intro _
   cases hp:p i with
   |true=>exact .inl (List.mem_filter.2 ⟨List.mem_range.2 hi',hp⟩)
   |false=>exact .inr (List.mem_filter.2 ⟨List.mem_range.2 hi',by simp [hp]⟩)
  ·intro _
   simp [hi']
 ·rw [getD_replicate_false] at hx;cases hx
 ·have e1:=hix_at l 0 [] [] rfl
  simp only [List.nil_append,←List.range_eq_range'] at e1
  rw [←hp,e1]
  refine xrs_sound hT (sel false (heads l 0 []) l) (fun e a hr h=>?_) l 0 [] [] e a (fun j hj=>by simp) rfl hr h
  rw [fnl_eq] at h
  exact xu_sound hT (K:=fun e w=>K .normal e w) (fun i hi=>gBut2_at i hi) (fun e a w hr hk=>⟨e,hr,hk⟩) _ _ _ _ _ hr h
theorem cl_id {P:Program} {f:FuncId} {args:Array Value} {w:World} {k:Value→World→Prop} (h:Cl P f args w k):Cl P f args w k:=h
theorem cl_eq {P:Program} {f f':FuncId} {args args':Array Value} {w:World} {R:Ending→World→Prop} {k:Value→World→Prop} (h:Calls P f' args' w R) (ef:f=f') (ea:args=args') (hk:∀e w',R e w'→∃v,e= .returned v∧k v w'):Cl P f args w k:=by
 subst ef ea
 exact cl_of h hk
theorem Hp.join {S:Nat→Prop} {w0 w w':World} {rs rs':List Res} (h:Hp S w0 w rs) (h':Hp N0 w w' rs'):Hp S w0 w' (rs'++rs):=by
 have h0:=h.call0 h'.chg
 refine ⟨h0.chg,fun r hr=>?_,List.pairwise_append.2 ⟨h'.sep,h0.sep,fun r hr r' hr' b hb hb'=>?_⟩,fun r hr b hb=>?_⟩
 ·rcases List.mem_append.1 hr with hr|hr
  ·exact h'.ok r hr
  ·exact h0.ok r hr
 ·have h1:=(h'.own r hr b hb).resolve_left fun hh=>hh
  have h2:=r'.lt w (h.ok r' hr') b hb'
  omega
 ·rcases List.mem_append.1 hr with hr|hr
  ·exact .inr (Nat.le_trans h.chg.size ((h'.own r hr b hb).resolve_left fun hh=>hh))
  ·exact h0.own r hr b hb
theorem perm213 {α:Type} (a b c:α): [b,a,c].Perm [a,b,c]:= .swap ..
theorem perm132 {α:Type} (a b c:α): [a,c,b].Perm [a,b,c]:= .cons _ (.swap ..)
theorem perm231 {α:Type} (a b c:α): [b,c,a].Perm [a,b,c]:= .trans (.cons _ (.swap ..)) (.swap ..)
theorem perm312 {α:Type} (a b c:α): [c,a,b].Perm [a,b,c]:= .trans (.swap ..) (.cons _ (.swap ..))
theorem perm321 {α:Type} (a b c:α): [c,b,a].Perm [a,b,c]:= .trans (.cons _ (.swap ..)) (.trans (.swap ..) (.cons _ (.swap ..)))
theorem dr_cut {P:Program} {n:Nat} {c:Code} {K:Exit→Env→World→Prop} {e:Env} {w:World} (I:Env→World→Prop) (h:Dr P n c (fun ex e w=>match ex with| .normal=>I e w|_=>False) e w) (hk:∀e w,I e w→K .normal e w):Dr P n c K e w:=by
 refine dr_of fun rr a hfl hr=>Code.wpIn_mono ?_ (h.out rr a hfl hr)
 rintro ex a' w' ⟨e',hr',h1⟩
 cases ex<;>first
  |exact ⟨e',hr',hk _ _ h1⟩
  |exact h1.elim
end Go.Proofs.YteabebmlclgakaaGreat
/- Range: ranges over maps, in whatever order they come. No condition. -/
namespace Go.Proofs.YteabebmlclgakaaGreat
open Go.RowKit
open Go.ChangeMaps (setBlock)
def seenOf (es:Array MapEntry) (done:List Nat):Array Nat:=(done.map fun i=>((es[i]?).map (·.born)).getD 0).toArray
def itR (b m:Nat) (es:Array MapEntry) (clock:Nat) (done:List Nat):Res where
 dom x:=x=b
 ok w:=w.heap[b]? =some (.mapIter (some m) clock (seenOf es done) clock)
 lt w h x hx:=by subst hx;exact heap_lt h
 loc w w' h hk:=(h b rfl).trans hk
section
variable {κ ν : Type} {enc : κ → Value} {val : ν → Value} {P : Program} {S : Nat → Prop} {w0 w w' : World} {rs : List Res} {b m : Nat} {es : Array MapEntry} {clock : Nat} {l : List (κ × ν)} {done : List Nat} {ρ : Operand → Value} {o : Oper} {g : Value → World → Prop}
end
attribute [irreducible] itR
end Go.Proofs.YteabebmlclgakaaGreat
/- HintG: tools for indexes; keys that are hints. No condition. -/
namespace Go.Proofs.YteabebmlclgakaaGreat
open Go.RowKit
set_option maxRecDepth 100000
set_option maxHeartbeats 2000000
section
variable {S : Nat → Prop} {w0 w w' : World} {rs : List Res} {j : Nat}
theorem ldn_heap {b n:Nat} {t:TypeId} {cs:List Value} {k:Value→Prop} (h:w.heap[b]? =some (.cells cs.toArray t)) (hl:cs.length=n) (hk:k (.agg cs.toArray)):LdN w ⟨b,0,none⟩ n k:=
 ldn_of hl (fun i v hi=>by rw [add_plain];exact cell_of_heap h (by simpa using hi)) hk
end
section
variable {P : Program} {w : World} {κ ν : Type} [DecidableEq κ] {enc : κ → Value} {val : ν → Value} {k e t : TypeId} {b : Nat} {l : List (κ × ν)} {ρ : Operand → Value} {o : Oper}
theorem rd_lookM {g:Value→Prop} {m x:Operand} {ok:Bool} (hop:o.op=Op.lookup t m x ok) (hM:MapAt enc val w b l) (hm:ρ m= .map (some b)) (KE:KEnc P k enc) (ht:P.underlying t=some (.map k e)) {z:ν} (hz:zeroOf P e=some (val z)) (c:κ) (hx:ρ x=enc c) {v:ν} (hv:(l.lookup c).getD z=v)
  (hk:g (if ok then .tuple #[val v, .bool (l.lookup c).isSome] else val v)):Rd P ρ o w g:=by
 subst hv
 refine ⟨_,fun w' hc=>?_,hk⟩
 obtain ⟨h1,h2⟩:=(hM.keep0 hc).look KE ht (fun W=>run_zeroOf hz) c
 cases ok
 ·simp [execOp,hop,hm,hx,h2]
 ·simp [execOp,hop,hm,hx,h1]
theorem gen_lookM {g:Value→World→Prop} {m x:Operand} {ok:Bool} (hop:o.op=Op.lookup t m x ok) (hM:MapAt enc val w b l) (hm:ρ m= .map (some b)) (KE:KEnc P k enc) (ht:P.underlying t=some (.map k e)) {z:ν} (hz:zeroOf P e=some (val z)) (c:κ) (hx:ρ x=enc c) {v:ν} (hv:(l.lookup c).getD z=v)
  (hk:g (if ok then .tuple #[val v, .bool (l.lookup c).isSome] else val v) w):Gen P ρ o w g:=by
 obtain ⟨v',h1,h2⟩:=rd_lookM (g:=fun v=>g v w) hop hM hm KE ht hz c hx hv hk
 exact gen_v (h1 w (Chg.refl _ _)) h2
theorem rd_cutl {α:Type} {g:Value→Prop} {sz bytes:Nat} {x lo:Operand} (hop:o.op= .slice t x (some lo) none none) (hE:ElT P t e sz bytes) (s:Sl α) (hx:ρ x=s.v) (hc:s.l.length≤s.c) {k:IntKind} {m:Int} (hl:ρ lo= .int k m) {l:Nat} (hm:m=l) (h2:l≤s.l.length) (hk:g (s.cut sz l s.l.length).v):Rd P ρ o w g:=by
 subst hm
 obtain ⟨ht,i,z,hi',_,hs,_⟩:=hE
 exact ⟨_,fun w' _=>run_cut hop ht ⟨i,hi',hs⟩ s hx hc (l:=l) (h:=s.l.length) ⟨k,hl⟩ rfl h2 (Nat.le_refl _),hk⟩
theorem gen_mkf {fn:Fn} {a b:Array Operand} {g:Value→World→Prop} (hop:o.op= .makeFunc fn a b) {v:Value} (hv: .func fn (a.toList.map ρ).toArray (b.toList.map ρ).toArray=v) (h:g v w):Gen P ρ o w g:=by
 subst hv
 have e1:∀a:Array Operand,a.map ρ=(a.toList.map ρ).toArray:=fun a=>by apply Array.ext';simp
 rw [←e1,←e1] at h
 exact gen_v (by simp [execOp,hop,Instr.makeFunc]) h
end
theorem hg_lookup {κ ν:Type} [DecidableEq κ] {k:κ} {v:ν}:∀{l:List (κ×ν)},l.lookup k=some v→(k,v)∈l
 | [],h=>by simp at h
 |p::l,h=>by
  rw [List.lookup_cons] at h
  by_cases hk:k=p.1
  ·have hb:(k==p.1)=true:=by simpa using hk
   rw [hb] at h
   cases h
   subst hk
   simp
  ·have hb:(k==p.1)=false:=by simpa using hk
   rw [hb] at h
   exact List.mem_cons_of_mem _ (hg_lookup h)
theorem eq_hint (x y:Hint):EqIs Tryz.prog 37 x.v y.v (decide (x=y)):=fun w=>by
 have h:=run_equalIn_bytes (P:=Tryz.prog) w 9998 37 5 16 (by kernel_rfl) Tryz.underlying5 (fun w=>by rfl) x.toList y.toList (by simp) (by simp)
 rw [Hint.cells,Hint.cells] at h
 have e:(x.toList==y.toList)=decide (x=y):=by
  rw [Bool.eq_iff_iff]
  simp
 rw [e] at h
 exact h
theorem hint_law:Maps.Keyed Tryz.prog 37:=Maps.Keyed.of_law (deep_law (m:=3) (by omega) (by kernel_rfl) (by kernel_rfl) (by kernel_rfl))
theorem Hint.inj {x y:Hint} (h:x.v=y.v):x=y:=by
 have h1:x.c.toArray=y.c.toArray:=by injection h
 rw [←Hint.cells,←Hint.cells] at h1
 have h2:x.toList.map Extern.Stop.cell=y.toList.map Extern.Stop.cell:=by simpa using h1
 have h3:x.toList=y.toList:=by
  have hinj:∀a b:UInt8,Extern.Stop.cell a=Extern.Stop.cell b→a=b:=fun a b hh=>by
   simp [Extern.Stop.cell] at hh
   exact UInt8.toNat_inj.1 (by omega)
  exact List.map_inj_right hinj |>.1 h2
 exact Vector.toList_inj.1 h3
theorem hintK:KEnc Tryz.prog 37 Hint.v where
 law:=hint_law
 reads x:=by
  obtain ⟨L,hL⟩:=keyLits_u8s (P:=Tryz.prog) (t:=37) (e:=5) (n:=16) (d:=Tryz.prog.types.size - 1) (by kernel_rfl) Tryz.underlying5 (by kernel_rfl) (by kernel_rfl) x.toList (by simp)
  have h1:x.v.cells.toList=x.toList.map u8:=by
   have:=congrArg Array.toList (Hint.cells x)
   rw [List.toList_toArray,List.toList_toArray] at this
   exact this.symm
  have h2:Tryz.prog.types.size - 1+2=Tryz.prog.types.size+1:=by kernel_rfl
  rw [h2] at hL
  refine ⟨.string (keyBytes L),?_⟩
  have ht:Tryz.prog.underlying 37=some (.array 16 5):=by kernel_rfl
  have hk:(Tryz.prog.keyType 37 && x.v.formed Tryz.prog 37)=true:=by kernel_rfl
  unfold keyOf
  rw [ht]
  simp only
  rw [if_pos hk,h1,hL]
  rfl
 inj h:=Hint.inj h
theorem el_key:ElT Tryz.prog 64 42 2 8:=elt_of (z:= .agg #[.int .u32 0, .int .u32 0]) Tryz.underlying64 (by kernel_rfl) rfl (by omega)
theorem key_one {l:List Key}:∀x∈l,∀u∈Key.c x,u.oneCell'=true:=fun x _ u hu=>by
 rcases List.mem_cons.1 hu with rfl|hu
 ·rfl
 rcases List.mem_cons.1 hu with rfl|hu
 ·rfl
 ·cases hu
section
variable {κ ν : Type} [DecidableEq κ]
def idx (l:List (κ×Sl ν)) (k:κ):Sl ν:=(l.lookup k).getD Sl.nil
variable {kv : κ → Value} {vc : ν → List Value} {it et : TypeId} {sz : Nat} {b m : Nat} {n : Int} {l : List (κ × Sl ν)} {w w' : World}
abbrev irow (et:TypeId) (sz:Nat) (vc:ν→List Value) (p:κ×Sl ν):Res:=rowR et sz vc p.2
abbrev idxRs (it et:TypeId) (sz:Nat) (kv:κ→Value) (vc:ν→List Value) (b m:Nat) (l:List (κ×Sl ν)) (n:Int):List Res:=cel b it #[.map (some m),i64 n]::mapR kv Sl.v m l::l.map (irow et sz vc)
structure IdxAt (kv:κ→Value) (vc:ν→List Value) (sz:Nat) (w:World) (b m:Nat) (l:List (κ×Sl ν)) (n:Int):Prop where
 c0:w.cell? ⟨b,0,none⟩=some (.map (some m))
 c1:w.cell? ⟨b,1,none⟩=some (i64 n)
 map:MapAt kv Sl.v w m l
 row:∀p∈l,SlAt w.heap.size w vc sz p.2
omit [DecidableEq κ] in
theorem idxAt (h:(star (idxRs it et sz kv vc b m l n)).ok w):IdxAt kv vc sz w b m l n:=by
 have hp:=Hp.open h
 exact ⟨cell_of_heap (hp.cel_get (j:=0) rfl) rfl,cell_of_heap (hp.cel_get (j:=0) rfl) rfl,mapR_ok.1 (hp.get (j:=1) rfl),fun p hm=>rowR_at (e:=et) (hp.ok (irow et sz vc p) (List.mem_cons_of_mem _ (List.mem_cons_of_mem _ (List.mem_map_of_mem hm))))⟩
omit [DecidableEq κ] in
theorem IdxAt.keep0 (h:IdxAt kv vc sz w b m l n) (hc:Chg N0 w w'):IdxAt kv vc sz w' b m l n:=
 ⟨hc.cell0 h.c0,hc.cell0 h.c1,h.map.keep0 hc,fun p hm=>((h.row p hm).keep hc fun _ hh=>hh.elim).more hc.size⟩
theorem IdxAt.idx (h:IdxAt kv vc sz w b m l n) (k:κ):SlAt w.heap.size w vc sz (idx l k):=by
 unfold Go.Proofs.YteabebmlclgakaaGreat.idx
 cases hl:l.lookup k with
 |none=>exact .none_
 |some x=>exact h.row _ (hg_lookup hl)
theorem idx_mput (l:List (κ×Sl ν)) (k:κ) (s:Sl ν) (x:κ):idx (mput l k s) x=if x=k then s else idx l x:=by
 unfold idx
 rw [lookup_mput]
 by_cases h:x=k
 ·rw [if_pos h,if_pos h];rfl
 ·rw [if_neg h,if_neg h]
theorem lookup_mdel (l:List (κ×Sl ν)) (k x:κ):(mdel l k).lookup x=if x=k then none else l.lookup x:=by
 unfold mdel
 induction l with
 |nil=>simp
 |cons p l ih=>
  by_cases hp:p.1=k
  ·rw [List.filter_cons_of_neg (by simpa using hp),ih,List.lookup_cons]
   by_cases hx:x=k
   ·rw [if_pos hx,if_pos hx]
   ·rw [if_neg hx,if_neg hx]
    have:(x==p.1)=false:=by simp only [beq_eq_false_iff_ne,ne_eq];exact fun e=>hx (e.trans hp)
    rw [this]
  ·rw [List.filter_cons_of_pos (by simpa using hp),List.lookup_cons,List.lookup_cons,ih]
   by_cases hx:x=k
   ·rw [if_pos hx,if_pos hx]
    have:(x==p.1)=false:=by simp only [beq_eq_false_iff_ne,ne_eq];exact fun e=>hp (e.symm.trans hx)
    rw [this]
   ·rw [if_neg hx,if_neg hx]
theorem idx_mdel (l:List (κ×Sl ν)) (k x:κ):idx (mdel l k) x=if x=k then Sl.nil else idx l x:=by
 unfold idx
 rw [lookup_mdel]
 by_cases h:x=k
 ·rw [if_pos h,if_pos h];rfl
 ·rw [if_neg h,if_neg h]
theorem rows_take {β:Type} (f:κ×Sl ν→β) (k:κ):∀{l:List (κ×Sl ν)},(l.map (·.1)).Nodup→∃rest,((∃s,l.lookup k=some s∧(l.map f).Perm (f (k,s)::rest))∨(l.lookup k=none∧l.map f=rest))∧(∀s',(f (k,s')::rest).Perm ((mput l k s').map f))∧rest=(mdel l k).map f
 | [],_=>⟨[], .inr ⟨by simp,by simp⟩,fun s'=>by simp [mput],by simp [mdel]⟩
 |p::l,hn=>by
  rw [List.map_cons,List.nodup_cons] at hn
  by_cases hk:p.1=k
  ·subst hk
   have hno:∀q∈l,q.1≠p.1:=fun q hq e=>hn.1 (e▸List.mem_map_of_mem (f:=fun x:κ×Sl ν=>x.1) hq)
   have hdel:mdel (p::l) p.1=l:=by
    unfold mdel
    rw [List.filter_cons_of_neg (by simp)]
    exact List.filter_eq_self.2 (by simpa using hno)
   refine ⟨l.map f, .inl ⟨p.2,by rw [List.lookup_cons,beq_self_eq_true], .refl _⟩,fun s'=>?_,by rw [hdel]⟩
   have h1:mput (p::l) p.1 s'=(p.1,s')::l:=by
    unfold mput
    rw [if_pos (by simp)]
    have h2:∀q∈l,(if q.1=p.1 then (p.1,s') else q)=q:=fun q hq=>if_neg (hno q hq)
    rw [List.map_cons,if_pos rfl,List.map_congr_left h2,List.map_id']
   rw [h1]
   simp
  ·obtain ⟨rest,h1,h2,h3⟩:=rows_take f k hn.2
   have hlk:(p::l).lookup k=l.lookup k:=by
    rw [List.lookup_cons]
    have:(k==p.1)=false:=by simp only [beq_eq_false_iff_ne,ne_eq];exact fun e=>hk e.symm
    rw [this]
   refine ⟨f p::rest,?_,fun s'=>?_,?_⟩
   ·rw [hlk]
    rcases h1 with ⟨s,h4,h5⟩|⟨h4,h5⟩
    ·exact .inl ⟨s,h4,(h5.cons _).trans (.swap ..)⟩
    ·exact .inr ⟨h4,by rw [List.map_cons,h5]⟩
   ·have h4:mput (p::l) k s'=p::mput l k s':=by
     unfold mput
     by_cases hkl:k∈l.map (·.1)
     ·rw [if_pos hkl,if_pos (by rw [List.map_cons];exact List.mem_cons_of_mem _ hkl),List.map_cons,if_neg hk]
     ·rw [if_neg hkl,if_neg (by rw [List.map_cons,List.mem_cons];exact fun h=>h.elim (fun e=>hk e.symm) hkl)]
      rfl
    rw [h4,List.map_cons]
    exact (List.Perm.swap ..).trans ((h2 s').cons _)
   ·have h4:mdel (p::l) k=p::mdel l k:=by
     unfold mdel
     rw [List.filter_cons_of_pos (by simpa using hk)]
    rw [h4,List.map_cons,h3]
theorem idx_out {D:Nat→Prop} {w0:World} {c:List Res} (k:κ) (h:Hp D w0 w (c++(cel b it #[.map (some m),i64 n]::mapR kv Sl.v m l::l.map (irow et sz vc)))):
  ∃rest,Hp D w0 w (rowR et sz vc (idx l k)::(c++(cel b it #[.map (some m),i64 n]::mapR kv Sl.v m l::rest)))∧(∀s',(irow et sz vc (k,s')::rest).Perm ((mput l k s').map (irow et sz vc)))∧rest=(mdel l k).map (irow et sz vc):=by
 have hM:MapAt kv Sl.v w m l:=mapR_ok.1 (h.ok _ (by simp))
 obtain ⟨rest,h1,h2,h3⟩:=rows_take (irow et sz vc) k hM.nodup
 refine ⟨rest,?_,h2,h3⟩
 rcases h1 with ⟨s,h4,h5⟩|⟨h4,h5⟩
 ·have e:idx l k=s:=by unfold idx;rw [h4];rfl
  rw [e]
  refine h.perm ?_
  have h6:(c++(cel b it #[.map (some m),i64 n]::mapR kv Sl.v m l::l.map (irow et sz vc))).Perm (c++(cel b it #[.map (some m),i64 n]::mapR kv Sl.v m l::(irow et sz vc (k,s)::rest))):=((h5.cons _).cons _).append_left c
  refine h6.trans ?_
  have h7:=List.perm_middle (l₁:=c++ [cel b it #[.map (some m),i64 n],mapR kv Sl.v m l]) (l₂:=rest) (a:=irow et sz vc (k,s))
  simpa using h7
 ·have e:idx l k=Sl.nil:=by unfold idx;rw [h4];rfl
  rw [e,←h5]
  exact h.nilRow et sz vc
omit [DecidableEq κ] in
theorem idx_back {D:Nat→Prop} {w0:World} {k:κ} {s':Sl ν} {C M:Res} {c rest:List Res} {l':List (κ×Sl ν)} (h:Hp D w0 w (irow et sz vc (k,s')::(c++(C::M::rest)))) (hperm:(irow et sz vc (k,s')::rest).Perm (l'.map (irow et sz vc))):Hp D w0 w (c++(C::M::l'.map (irow et sz vc))):=by
 refine h.perm ?_
 have h7:=(List.perm_middle (l₁:=c++ [C,M]) (l₂:=rest) (a:=irow et sz vc (k,s'))).symm
 have h8:=hperm.append_left (c++ [C,M])
 have h9:=h7.trans h8
 simpa using h9
theorem idxOf_at {α:Type} [BEq α] [LawfulBEq α] {x:α}:∀{l:List α} {i:Nat},l[i]? =some x→(∀y∈l.take i,y≠x)→l.idxOf x=i
 | [],i,h,_=>by simp at h
 |y::l,0,h,_=>by
  simp at h
  subst h
  simp
 |y::l,i+1,h,hn=>by
  have hy:y≠x:=hn y (by simp)
  have h1:=idxOf_at (l:=l) (i:=i) (by simpa using h) fun z hz=>hn z (by simp [hz])
  rw [List.idxOf_cons,h1]
  have:(y==x)=false:=by simpa using hy
  rw [this]
  rfl
theorem erase_one {α:Type} [BEq α] [LawfulBEq α] {v:α} {l:List α} (hv:v∈l) (hl:l.length=1):l.erase v= []:=by
 match l,hl with
 | [x],_=>
  simp at hv
  subst hv
  simp
theorem erase_cut {α:Type} [BEq α] [LawfulBEq α] {sz a:Nat} {v:α} {s:Sl α} (ha:s.l.idxOf v=a):(s.cut sz 0 a).l++(s.cut sz (a+1) s.l.length).l=s.l.erase v:=by
 show (s.l.take a).drop 0++(s.l.take s.l.length).drop (a+1)=_
 rw [List.drop_zero,List.take_length,List.erase_eq_eraseIdx_of_idxOf ha,List.eraseIdx_eq_take_drop_succ]
theorem iter_at {S T:Nat→Prop} {w0 w:World} {rs1 rs2:List Res} (h:Hp S w0 w (rs1++rs2)) (hT:∀b,T b→b < w0.heap.size∧¬S b):∀b,((∃r∈rs1,r.dom b)∨T b)→b < w.heap.size∧∀r∈rs2,¬r.dom b:=by
 rintro b (⟨r,hr,hb⟩|hb)
 ·exact ⟨r.lt w (h.ok r (List.mem_append_left _ hr)) b hb,fun r' hr' hb'=>(List.pairwise_append.1 h.sep).2.2 r hr r' hr' b hb hb'⟩
 ·obtain ⟨h1,h2⟩:=hT b hb
  refine ⟨Nat.lt_of_lt_of_le h1 h.chg.size,fun r' hr' hb'=>?_⟩
  rcases h.own r' (List.mem_append_right _ hr') b hb' with h3|h3
  ·exact h2 h3
  ·omega
end
end Go.Proofs.YteabebmlclgakaaGreat
/- Plc: places of transactions. No condition. -/
namespace Go.Proofs.YteabebmlclgakaaGreat
open Go.RowKit
set_option maxRecDepth 100000
set_option maxHeartbeats 2000000
structure Plc where
 h:UInt32
 at':Int
 deriving DecidableEq
abbrev Plc.c (k:Plc):List Value:= [u32 k.h,i64 k.at']
abbrev Plc.v (k:Plc):Value:= .agg #[u32 k.h,i64 k.at']
theorem el_plc:ElT Tryz.prog 267 164 2 16:=elt_of (z:= .agg #[.int .u32 0, .int .i64 0]) Tryz.underlying267 (by kernel_rfl) rfl (by omega)
theorem plc_one {l:List Plc}:∀x∈l,∀u∈Plc.c x,u.oneCell'=true:=fun x _ u hu=>by
 rcases List.mem_cons.1 hu with rfl|hu
 ·rfl
 rcases List.mem_cons.1 hu with rfl|hu
 ·rfl
 ·cases hu
theorem eq_plc (x y:Plc):EqIs Tryz.prog 164 x.v y.v (decide (x=y)):=eqis_of (fs:=Tryz.prog.fieldsOf 164) (by kernel_rfl) (by kernel_rfl) fun w=>by
 have h0:=eqf_cons (P:=Tryz.prog) (w:=w) (d:=9999) (xs:= #[u32 x.h,i64 x.at']) (ys:= #[u32 y.h,i64 y.at']) (f:=((Tryz.prog.fieldsOf 164)[0]?).getD default) (by decide+kernel) (part_word (n:=1) (by kernel_rfl) (v:=u32 x.h) (by kernel_rfl)) (part_word (n:=1) (by kernel_rfl) (v:=u32 y.h) (by kernel_rfl))
  (run_equalIn_int w 9998 _ .u32 .u32 _ _ (by kernel_rfl)) (eqf_cons (f:=((Tryz.prog.fieldsOf 164)[1]?).getD default) (by decide+kernel) (part_word (n:=1) (by kernel_rfl) (v:=i64 x.at') (by kernel_rfl)) (part_word (n:=1) (by kernel_rfl) (v:=i64 y.at') (by kernel_rfl)) (run_equalIn_int w 9998 _ .i64 .i64 _ _ (by kernel_rfl)) eqf_nil)
 rw [u32_eq] at h0
 have e:(decide (x.h=y.h) && ((x.at'==y.at') && true))=decide (x=y):=by
  rw [Bool.eq_iff_iff]
  cases x;cases y
  simp
 rw [e] at h0
 exact h0
end Go.Proofs.YteabebmlclgakaaGreat
