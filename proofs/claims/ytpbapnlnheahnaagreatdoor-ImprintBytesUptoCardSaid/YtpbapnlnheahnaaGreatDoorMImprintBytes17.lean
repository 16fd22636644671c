/- MImprintBytes17: parts of the proof of ImprintBytes: TailI, RdI. No condition of their own. -/
import Derived.Test.YtpbapnlnheahnaaGreatDoorMImprintBytes9
import Derived.Test.YtpbapnlnheahnaaGreatDoorMImprintBytes15
import Derived.Test.YtpbapnlnheahnaaGreatDoorMImprintBytes12
import Derived.Test.YtpbapnlnheahnaaGreatDoorMImprintBytes16
set_option linter.unusedSimpArgs false
set_option linter.unusedVariables false
namespace Go.Proofs.YtpbapnlnheahnaaGreatDoor
open Go.RowKit
set_option maxRecDepth 100000
set_option maxHeartbeats 2000000
def YdI (P:Program) (ops:Array Oper) (o:Oper) (I:World→Prop) (v:Value) (a:Act):Prop:=
 Region.wanted o (yielded ops a.tmps)=true∧∀w',I w'→(execOp a.eval o).run P w'= .ok (.value v) w'
def HeI (P:Program) (ops:Array Oper) (I:World→Prop) (K:Act→Prop):List Nat→Act→Prop
 | [],a=>K a
 |i::r,a=>∃o v,ops[i]? =some o∧YdI P ops o I v a∧HeI P ops I K r (a.put o.dst v)
section
variable {P : Program} {ops : Array Oper} {I : World → Prop}
theorem HeI.mono {K K':Act→Prop} (h:∀a,K a→K' a):∀(l:List Nat) (a:Act),HeI P ops I K l a→HeI P ops I K' l a
 | [],a,hh=>h a hh
 |_::r,_,⟨o,v,ho,hy,hr⟩=>⟨o,v,ho,hy,HeI.mono h r _ hr⟩
theorem YdI.put {o:Oper} {v u:Value} {a:Act} {d:Option Tmp} (h:YdI P ops o I v a) (hs:∀cs b,o.op≠ .select cs b) (hd:∀t,d=some t→t∉o.looksAt ops):YdI P ops o I v (a.put d u):=by
 unfold YdI at*
 rw [execOp_put o hs a d u hd,wanted_put o a d u hd]
 exact h
theorem YdI.unput {o:Oper} {v u:Value} {a:Act} {d:Option Tmp} (h:YdI P ops o I v (a.put d u)) (hs:∀cs b,o.op≠ .select cs b) (hd:∀t,d=some t→t∉o.looksAt ops):YdI P ops o I v a:=by
 unfold YdI at*
 rw [execOp_put o hs a d u hd,wanted_put o a d u hd] at h
 exact h
theorem HeI.front {K:Act→Prop} (hsel:∀(j:Nat) (o:Oper) cs b,ops[j]? =some o→o.op≠ .select cs b) {i:Nat} {oi:Oper} (hi:ops[i]? =some oi) (post:List Nat):∀(pre:List Nat) (a:Act),
  (∀j∈pre,∀oj,ops[j]? =some oj→oj.apart ops oi=true)→HeI P ops I K (pre++i::post) a→∃v,YdI P ops oi I v a∧HeI P ops I K (pre++post) (a.put oi.dst v)
 | [],a,_,⟨o,v,ho,hy,hr⟩=>by
  rw [hi] at ho
  cases ho
  exact ⟨v,hy,hr⟩
 |j::pre,a,hap,⟨o,v,ho,hy,hr⟩=>by
  obtain ⟨v',hy',hr'⟩:=HeI.front hsel hi post pre _ (fun j' hj'=>hap j' (by simp [hj'])) hr
  obtain ⟨h1,h2,h3⟩:=Oper.apart_spec (hap j (by simp) o ho)
  refine ⟨v',hy'.unput (fun cs b=>hsel i oi cs b hi) h1,o,v,ho,hy.put (fun cs b=>hsel j o cs b ho) h3,?_⟩
  rw [←Act.put_comm a v v' h2]
  exact hr'
end
section
variable {P : Program} {ops : Array Oper} {Q : Exit → Act → World → Prop} {I : World → Prop}
theorem HeI.take {w:World} (hsel:∀(j:Nat) (o:Oper) cs b,ops[j]? =some o→o.op≠ .select cs b) (hP:∀c a w,¬Q (.panic c) a w) {i:Nat} {oi:Oper} (hi:ops[i]? =some oi) (T:Act→World→Prop):∀(hs:List Nat) (a:Act),
  (∀j∈hs,∀oj,ops[j]? =some oj→oj.apart ops oi=true)→I w→HeI P ops I (fun a'=>wpOp P ops Q i (fun a1 w1=>(I w1∧a1.defers=a'.defers)∧T a1 w1) a' w) hs a→wpOp P ops Q i (fun a1 w1=>(I w1∧a1.defers=a.defers)∧HeI P ops I (fun a'=>T a' w1) hs a1) a w
 | [],_,_,_,h=>h
 |j::hs,a,hap,hIw,⟨o,v,ho,hy,hr⟩=>by
  have ih:=HeI.take hsel hP hi T hs _ (fun j' hj'=>hap j' (by simp [hj'])) hIw hr
  obtain ⟨h1,h2,h3⟩:=Oper.apart_spec (hap j (by simp) o ho)
  have fin:∀u w1,I w1→HeI P ops I (fun a'=>T a' w1) hs ((a.put o.dst v).put oi.dst u)→(I w1∧(a.put oi.dst u).defers=a.defers)∧HeI P ops I (fun a'=>T a' w1) (j::hs) (a.put oi.dst u):=fun u w1 hc hh=>
   ⟨⟨hc,put_defers _ _ _⟩,o,v,ho,hy.put (fun cs b=>hsel j o cs b ho) h3,by rw [←Act.put_comm a v u h2];exact hh⟩
  unfold wpOp at ih ⊢
  simp only [hi] at ih ⊢
  rw [wanted_put oi a o.dst v h1] at ih
  split at ih
  ·rename_i hw
   rw [if_pos hw]
   rcases ih with ih|⟨hasks,hl⟩
   ·refine .inl ?_
    unfold Oper.wp at ih ⊢
    rw [execOp_put oi (fun cs b=>hsel i oi cs b hi) a o.dst v h1] at ih
    generalize (execOp a.eval oi).run P w=r at ih ⊢
    cases r with
    |ok nx w'=>
     cases nx<;>simp only [Oper.upon] at ih ⊢ <;>first
      |exact fin _ _ ih.1.1 ih.2
      |(have h4:=ih.1.2
        simp at h4
        done)
      |exact Rows.mono ih fun u w'' he=>fin _ _ he.1.1 he.2
      |(refine Calls.mono ih fun e w'' he=>?_
        cases e with
        |returned u=>exact fin _ _ he.1.1 he.2
        |panicked c=>exact (hP _ _ _ he).elim
        |outgrown=>exact he)
    |halt x w'=>
     cases x<;>simp only [Oper.upon] at ih
     exact (hP _ _ _ ih).elim
   ·refine .inr ⟨?_,hl⟩
    unfold Oper.asks at hasks ⊢
    rw [execOp_put oi (fun cs b=>hsel i oi cs b hi) a o.dst v h1] at hasks
    exact hasks
  ·rename_i hw
   rw [if_neg hw]
   exact fin undef w hIw ih.2
def wpI (P:Program) (ops:Array Oper) (Q:Exit→Act→World→Prop) (I:World→Prop):Nat→List Nat→Act→World→Prop
 |0,_,_,_=>False
 |_+1, [],a,w=>Q .normal a w
 |fuel+1,ts,a,w=>∀i∈rdyT ops ts,wpOp P ops Q i (fun a1 w1=>(I w1∧a1.defers=a.defers)∧wpI P ops Q I fuel (ts.filter fun j=> !Nat.beq j i) a1 w1) a w
theorem mix_anyI {p gf:Nat→Bool} {b:Array Nat} (M:MixT ops p gf b) (hP:∀c a w,¬Q (.panic c) a w):∀(fuel:Nat) (listed:Array Bool) (hs ts:List Nat) (k:Nat) (a:Act) (w:World),
  listed.size=ops.size→hs.length+ts.length≤fuel→hs.Pairwise (· < ·)→ts.Nodup→(∀i,i < ops.size→(listed.getD i true=false↔i∈hs∨i∈ts))→(∀i∈hs,p i=true∧i < ops.size)→(∀i∈ts,p i=false∧i < ops.size)→
  (∀x y,listed.getD x false=true→x < ops.size→(b.getD x 0).testBit y=true→y < ops.size→listed.getD y false=true)→
  I w→HeI P ops I (fun a'=>wpI P ops Q I k ts a' w) hs a→wpAny P .any ops Q fuel listed a w:=by
 intro fuel
 induction fuel with
 |zero=>
  intro listed hs ts k a w hsz hf _ _ hun _ _ _ _ h
  obtain ⟨h1,h2⟩:hs= []∧ts= []:=by
   constructor<;>exact List.eq_nil_of_length_eq_zero (by omega)
  subst h1 h2
  have h:wpI P ops Q I k [] a w:=h
  refine ⟨?_,by cases k with|zero=>exact h.elim|succ k=>exact h⟩
  rw [List.eq_nil_iff_forall_not_mem]
  intro i hi
  obtain ⟨h0,o,ho,_⟩:=mem_ready.1 hi
  have:=(hun i (Array.getElem?_eq_some_iff.1 ho).1).1 h0
  simp at this
 |succ fuel ih=>
  intro listed hs ts k a w hsz hf hpw hpt hun hhs hts hcl hIw h
  have hlist:∀i,i < ops.size→(listed.getD i true=false)→listed.getD i false=false:=fun i hi h0=>getD_both h0
  refine ⟨fun hr=>?_,fun i hi=>?_⟩
  ·
   have hempty:∀x,x∉hs++ts:=by
    intro x hx
    have key:∀m x,x=m→x∈hs++ts→False:=by
     intro m
     induction m using Nat.strongRecOn with
     |_ m ihm=>
      intro x hxm hx
      have hxl:x < ops.size:=by
       rcases List.mem_append.1 hx with h1|h1
       ·exact (hhs x h1).2
       ·exact (hts x h1).2
      have hxo:ops[x]? =some ops[x]:=Array.getElem?_eq_getElem hxl
      have:x∈Region.ready .any ops listed:=by
       refine mem_ready.2 ⟨(hun x hxl).2 (List.mem_append.1 hx),ops[x],hxo,fun e he hb=>?_⟩
       have hlt:=M.back x _ hxo e he hb
       cases hle:listed.getD e.on false with
       |true=>rfl
       |false=>
        have hel:e.on < ops.size:=by omega
        have hun':listed.getD e.on true=false:=getD_in (by omega) hle
        exact (ihm e.on (by omega) e.on rfl (List.mem_append.2 ((hun e.on hel).1 hun'))).elim
      rw [hr] at this
      cases this
    exact key x x rfl hx
   have h1:hs= []:=List.eq_nil_iff_forall_not_mem.2 fun x hx=>hempty x (List.mem_append.2 (.inl hx))
   have h2:ts= []:=List.eq_nil_iff_forall_not_mem.2 fun x hx=>hempty x (List.mem_append.2 (.inr hx))
   subst h1 h2
   have h:wpI P ops Q I k [] a w:=h
   cases k with
   |zero=>exact h.elim
   |succ k=>exact h
  ·obtain ⟨h0,oi,hoi,hall⟩:=mem_ready.1 hi
   have hil:i < ops.size:=(Array.getElem?_eq_some_iff.1 hoi).1
   have hdep:∀y,(b.getD i 0).testBit y=true→y < ops.size→listed.getD y false=true:=fun y hy hys=>by
    obtain ⟨e,he,hb,h1⟩:=M.dep i oi hoi y hy hys
    have h2:=hall e he hb
    rcases h1 with rfl|h1
    ·exact h2
    ·have:=M.back i oi hoi e he hb
     exact hcl e.on y h2 (by omega) h1 hys
   have hcl':∀x y,(listed.setIfInBounds i true).getD x false=true→x < ops.size→(b.getD x 0).testBit y=true→y < ops.size→(listed.setIfInBounds i true).getD y false=true:=fun x y hx hxs hy hys=>by
    by_cases hxi:i=x
    ·subst hxi;exact getD_set_true (hdep y hy hys)
    ·rw [getD_set_ne false hxi] at hx
     exact getD_set_true (hcl x y hx hxs hy hys)
   have hsz':(listed.setIfInBounds i true).size=ops.size:=by simp [hsz]
   have hset:∀x,x < ops.size→((listed.setIfInBounds i true).getD x true=false↔listed.getD x true=false∧x≠i):=fun x hx=>by
    by_cases hxi:i=x
    ·subst hxi
     have:i < listed.size:=by omega
     simp [this]
    ·rw [getD_set_ne true hxi]
     exact ⟨fun h=>⟨h,fun e=>hxi e.symm⟩,fun h=>h.1⟩
   rcases (hun i hil).1 h0 with hm|hm
   ·
    obtain ⟨pre,post,rfl⟩:=List.append_of_mem hm
    have hpw':=hpw
    rw [List.pairwise_append] at hpw'
    have hlt:∀j∈pre,j < i:=fun j hj=>hpw'.2.2 j hj i (by simp)
    have hap:∀j∈pre,∀oj,ops[j]? =some oj→oj.apart ops oi=true:=fun j hj oj hoj=>by
     rcases M.heads i j oi oj (hhs i hm).1 (hhs j (by simp [hj])).1 (hlt j hj) hoi hoj with ⟨e,he,hb,rfl⟩|h1
     ·have h2:=hall e he hb
      have h3:=(hun e.on (Array.getElem?_eq_some_iff.1 hoj).1).2 (.inl (by simp [hj]))
      rw [getD_both h3] at h2
      cases h2
     ·exact h1
    obtain ⟨v,hy,hr⟩:=HeI.front M.sel hoi post pre a hap h
    have hK:wpAny P .any ops Q fuel (listed.setIfInBounds i true) (a.put oi.dst v) w:=by
     have hsub:(pre++post).Sublist (pre++i::post):=List.Sublist.append_left (List.sublist_cons_self _ _) _
     have hni:i∉pre++post++ts:=by
      intro hx
      rcases List.mem_append.1 hx with h1|h1
      ·rcases List.mem_append.1 h1 with h1|h1
       ·have:=hlt i h1;omega
       ·have h2:=hpw'.2.1
        rw [List.pairwise_cons] at h2
        have:=h2.1 i h1
        omega
      ·have h2:=(hhs i hm).1
       rw [(hts i h1).1] at h2
       cases h2
     refine ih _ (pre++post) ts k _ w hsz' (by simp at hf ⊢;omega) (hpw.sublist hsub) hpt (fun x hx=>?_) (fun x hx=>hhs x (by rcases List.mem_append.1 hx with h1|h1<;>simp [h1])) hts hcl' hIw hr
     rw [hset x hx,hun x hx]
     constructor
     ·rintro ⟨h1|h1,h2⟩
      ·left
       rcases List.mem_append.1 h1 with h3|h3
       ·simp [h3]
       ·rcases List.mem_cons.1 h3 with h4|h4
        ·exact (h2 h4).elim
        ·simp [h4]
      ·exact .inr h1
     ·intro h1
      refine ⟨h1.imp (fun h2=>by rcases List.mem_append.1 h2 with h3|h3<;>simp [h3]) id,fun e=>?_⟩
      subst e
      exact hni (List.mem_append.2 h1)
    unfold wpOp
    simp only [hoi]
    obtain ⟨hw,hv⟩:=hy
    rw [if_pos hw]
    refine .inl ?_
    unfold Oper.wp
    rw [hv w hIw]
    exact hK
   ·
    obtain ⟨hni,_⟩:=hts i hm
    have hrd:i∈rdyT ops ts:=List.mem_filter.2 ⟨hm,by
     rw [hoi]
     refine List.all_eq_true.2 fun e he=>?_
     cases hb:Region.binds .any e with
     |false=>rfl
     |true=>
      have h1:=hall e (Array.mem_toList_iff.1 he) hb
      have h2:e.on∉ts:=fun hx=>by
       have h3:=(hun e.on (hts _ hx).2).2 (.inr hx)
       rw [getD_both h3] at h1
       cases h1
      simpa using h2⟩
    have hni2:i∉hs:=fun h1=>by
     have h2:=(hhs i h1).1
     rw [hni] at h2
     cases h2
    have hmem:∀x,x∈ts.filter (fun j=> !Nat.beq j i)↔x∈ts∧x≠i:=fun x=>by
     rw [List.mem_filter]
     refine and_congr_right fun _=>?_
     cases hb:Nat.beq x i with
     |true=>simp [Nat.eq_of_beq_eq_true hb]
     |false=>simp [Nat.ne_of_beq_eq_false hb]
    have hlen:(ts.filter fun j=> !Nat.beq j i).length < ts.length:=List.length_filter_lt_length_iff_exists.2 ⟨i,hm,by simp⟩
    have next:∀a1 w1,I w1→HeI P ops I (fun a'=>wpI P ops Q I (k - 1) (ts.filter fun j=> !Nat.beq j i) a' w1) hs a1→wpAny P .any ops Q fuel (listed.setIfInBounds i true) a1 w1:=fun a1 w1 hI1 hh=>by
     refine ih _ hs (ts.filter fun j=> !Nat.beq j i) (k - 1) a1 w1 hsz' (by omega) hpw (hpt.filter _) (fun x hx=>?_) hhs (fun x hx=>hts x ((hmem x).1 hx).1) hcl' hI1 hh
     rw [hset x hx,hun x hx,hmem x]
     constructor
     ·rintro ⟨h1|h1,h2⟩
      ·exact .inl h1
      ·exact .inr ⟨h1,h2⟩
     ·rintro (h1|h1)
      ·exact ⟨.inl h1,fun e=>hni2 (e▸h1)⟩
      ·exact ⟨.inr h1.1,h1.2⟩
    have h1:HeI P ops I (fun a'=>wpOp P ops Q i (fun a1 w1=>(I w1∧a1.defers=a'.defers)∧wpI P ops Q I (k - 1) (ts.filter fun j=> !Nat.beq j i) a1 w1) a' w) hs a:=HeI.mono (fun a' h2=>by
     cases k with
     |zero=>exact h2.elim
     |succ k=>
      cases ts with
      |nil=>cases hm
      |cons t0 ts0=>exact h2 i hrd) _ _ h
    have hA:∀j∈hs,∀oj,ops[j]? =some oj→oj.apart ops oi=true:=fun j hj oj hoj=>by
     have hjn:=hhs j hj
     rcases M.tails i j oi oj hni hjn.1 hoi hoj with h1|h1
     ·have hjs:j < ops.size:=hjn.2
      have h2:=hdep j h1 hjs
      have h3:=(hun j hjs).2 (.inl hj)
      rw [getD_both h3] at h2
      cases h2
     ·exact h1.2
    have h2:=HeI.take M.sel hP hoi (wpI P ops Q I (k - 1) (ts.filter fun j=> !Nat.beq j i)) hs a hA hIw h1
    exact wpOp_mono (fun a1 w1 h3=>next a1 w1 h3.1.1 h3.2) h2
end
structure LdI (I:World→Prop) (a:Addr) (k:Value→Prop):Prop where
 out:∃v,(∀w,I w→w.cell? a=some v)∧k v
theorem li_id {I:World→Prop} {a:Addr} {k:Value→Prop} (h:LdI I a k):LdI I a k:=h
theorem li_of {I:World→Prop} {a:Addr} {v:Value} {k:Value→Prop} (h:∀w,I w→w.cell? a=some v) (hk:k v):LdI I a k:=⟨v,h,hk⟩
structure LdNI (I:World→Prop) (a:Addr) (n:Nat) (k:Value→Prop):Prop where
 out:∃cs:List Value,cs.length=n∧(∀w,I w→∀(i:Nat) v,cs[i]? =some v→w.cell? (a.add i)=some v)∧k (.agg cs.toArray)
def xhF (T:Tb) (n:Nat) (ops:Array Oper) (I:World→Prop) (i:Nat) (ih:Env→Prop) (e:Env):Prop:=match ops[i]? with
 |some o=>match o.guard with
  |none=>match o.op with
   | .load t x=>match ev n e x with
    | .pointer (some ad)=>match layT T t with
     |some (false,_)=>LdI I ad fun v=>fcv v fun v=>ih (eup e o.dst v)
     |some (true,m)=>LdNI I ad m fun v=>fcv v fun v=>ih (eup e o.dst v)
     |none=>False
    |_=>False
   |_=>False
  |some _=>False
 |none=>False
def xh (T:Tb) (n:Nat) (ops:Array Oper) (I:World→Prop) (K:Env→Prop) (l:List Nat):Env→Prop:=
 List.rec (motive:=fun _=>Env→Prop) (fun e=>K e) (fun i _ ih=>xhF T n ops I i ih) l
theorem xh_cons {T:Tb} {n:Nat} {ops:Array Oper} {I:World→Prop} {K:Env→Prop} {i:Nat} {r:List Nat} {e:Env}:xh T n ops I K (i::r) e=xhF T n ops I i (xh T n ops I K r) e:=rfl
theorem xh_sound {P:Program} {T:Tb} (hT:TabOk P T) {n:Nat} {ops:Array Oper} {I:World→Prop} {K:Env→Prop} {K':Act→Prop} (hK:∀e a,Rel n e a→K e→K' a):∀(l:List Nat) (e:Env) (a:Act),Rel n e a→xh T n ops I K l e→HeI P ops I K' l a
 | [],e,a,hr,h=>hK e a hr h
 |i::r,e,a,hr,h=>by
  rw [xh_cons] at h
  unfold xhF at h
  split at h
  ·rename_i o ho
   split at h
   ·rename_i hg
    split at h
    ·rename_i t x hop
     split at h
     ·rename_i ad ha
      split at h
      ·rename_i k hl
       obtain ⟨v,hv,hx⟩:=h
       rw [fcv_eq] at hx
       refine ⟨o,v,ho,⟨by simp [Region.wanted,hg],fun w' hI=>?_⟩,xh_sound hT hK r _ _ (hr.put _ _) hx⟩
       have hl:=hT.lay hl
       have h1:=(run_isAgg (w:=w') hl).1
       have hv':=hv w' hI
       rw [hr.evals]
       simp [execOp,hop,ha,Instr.loadAt,Instr.sureAddr,loadVar,h1,load,Sem.run,hv']
      ·rename_i m hl
       obtain ⟨cs,hlen,hv,hx⟩:=h
       rw [fcv_eq] at hx
       refine ⟨o,_,ho,⟨by simp [Region.wanted,hg],fun w' hI=>?_⟩,xh_sound hT hK r _ _ (hr.put _ _) hx⟩
       have hl:=hT.lay hl
       subst hlen
       obtain ⟨h1,h2⟩:=run_isAgg (w:=w') hl
       have hv':=hv w' hI
       rw [hr.evals]
       simp [execOp,hop,ha,Instr.loadAt,Instr.sureAddr,loadVar,h1,h2,run_cells hv']
      ·exact h.elim
     ·exact h.elim
    ·exact h.elim
   ·exact h.elim
  ·exact h.elim
def xiF (T:Tb) (P:Program) (n:Nat) (ops:Array Oper) (I:World→Prop) (K:Env→World→Prop) (ih:List Nat→Env→World→Prop) (ts:List Nat) (e:Env) (w:World):Prop:=
 match ts with
 | []=>K e w
 |t0::r=>conjL (fun i=>match ops[i]? with
  |some o=>match o.guard with
   |none=>xo T P (ev n e) o w fun v w'=>Cn (I w') (fcv v fun v=>frc ((t0::r).filter fun j=> !Nat.beq j i) fun ts'=>ih ts' (eup e o.dst v) w')
   |some _=>False
  |none=>False) (rdyT ops (t0::r))
def xi (T:Tb) (P:Program) (n:Nat) (ops:Array Oper) (I:World→Prop) (K:Env→World→Prop) (fuel:Nat):List Nat→Env→World→Prop:=
 Nat.rec (motive:=fun _=>List Nat→Env→World→Prop) (fun _ _ _=>False) (fun _ ih=>xiF T P n ops I K ih) fuel
theorem xi_sound {P:Program} {T:Tb} (hT:TabOk P T) {n:Nat} {ops:Array Oper} {I:World→Prop} {K:Env→World→Prop} {Q:Exit→Act→World→Prop} (hQ:∀e a w,Rel n e a→K e w→Q .normal a w):
  ∀(fuel:Nat) (ts:List Nat) (e:Env) (a:Act) (w:World),Rel n e a→xi T P n ops I K fuel ts e w→wpI P ops Q I fuel ts a w
 |0,_,_,_,_,_,h=>h.elim
 |_+1, [],e,a,w,hr,h=>hQ e a w hr h
 |fuel+1,t0::r,e,a,w,hr,h=>by
  have ih:=fun ts e a w=>xi_sound hT (ops:=ops) (I:=I) hQ fuel ts e a w
  intro i hi
  have h1:=conjL_all (show conjL _ (rdyT ops (t0::r)) from h) i hi
  unfold wpOp
  cases ho:ops[i]? with
  |none=>rw [ho] at h1;exact h1.elim
  |some o=>
   rw [ho] at h1
   simp only at h1 ⊢
   cases hg:o.guard with
   |some g=>rw [hg] at h1;exact h1.elim
   |none=>
    rw [hg] at h1
    simp only at h1
    rw [if_pos (by simp [Region.wanted,hg])]
    exact .inl (gen_wp hr (xo_sound hT h1) fun v w' hx=>⟨⟨hx.1,put_defers _ _ _⟩,ih _ _ _ _ (hr.put _ _) (by have h2:=hx.2;rw [fcv_eq,frc_eq] at h2;exact h2)⟩)
theorem dr_autoi (hl:List Nat) (I:World→Prop) {P:Program} {T:Tb} (hT:TabOk P T) {n:Nat} {id:Nat} {l:List Oper} {K:Exit→Env→World→Prop} {e:Env} {w:World} (hm:P.follows .mixedOrders=true) (hB:mixTB l.toArray (fun i=>hl.elem i) (fun _=>true)=true) (hh:(List.range l.length).filter (fun i=>hl.elem i)=hl) (hI:I w.drew)
  (h:xh T n l.toArray I (fun e'=>frc ((List.range l.length).filter fun i=> !hl.elem i) fun ts=>xi T P n l.toArray I (fun e w=>K .normal e w) (l.length+1) ts e' w.drew) hl e):Dr P n (.region id l.toArray true) K e w:=by
 refine dr_of fun rr a hfl hr=>?_
 have M:=mixT_of hB
 generalize hp:(fun i=>hl.elem i)=p at M hh
 refine Code.wpIn_mono (Q:=QX n (fun ex e w=>match ex with| .panic _=>False| .outgrown=>False|ex=>K ex e w)) ?_ ?_
 ·rintro ex a' w' ⟨e',hr',hk⟩
  cases ex<;>first
   |exact ⟨e',hr',hk⟩
   |exact hk.elim
 have hin:∀q:Nat→Bool,∀i∈(List.range l.length).filter q,q i=true∧i < l.length:=fun q i hi=>by
  have:=List.mem_filter.1 hi
  exact ⟨this.2,List.mem_range.1 this.1⟩
 have hlen:∀l:List Nat,(l.filter p).length+(l.filter fun i=> !p i).length=l.length:=fun l=>by
  induction l with
  |nil=>rfl
  |cons x r ih=>cases hx:p x<;>simp [hx]<;>omega
 refine region_in hfl (fun _ _ ⟨_,_,h⟩=>h) hm (mix_anyI (I:=I) M (fun c a w ⟨e,_,hk⟩=>hk) _ _ ((List.range l.length).filter p) ((List.range l.length).filter fun i=> !p i) (l.length+1) a _ (by simp) (by have:=hlen (List.range l.length);simp at this ⊢;omega)
  (List.pairwise_lt_range.sublist List.filter_sublist) ((List.nodup_range).sublist List.filter_sublist) (fun i hi=>?_) (fun i hi=>by simpa using hin p i hi) (fun i hi=>by simpa using hin (fun i=> !p i) i hi) (fun x y hx=>?_) hI ?_)
 ·have hi':i < l.length:=by simpa using hi
  constructor
  ·intro _
   cases hp:p i with
   |true=>exact .inl (List.mem_filter.2 ⟨List.mem_range.2 hi',hp⟩)
   |false=>exact .inr (List.mem_filter.2 ⟨List.mem_range.2 hi',by simp [hp]⟩)
  ·intro _
   simp [hi']
 ·rw [getD_replicate_false] at hx;cases hx
 ·rw [hh]
  refine xh_sound hT (fun e a hr h=>?_) hl e a hr h
  rw [frc_eq] at h
  subst hp
  exact xi_sound hT (K:=fun e w=>K .normal e w) (fun e a w hr hk=>⟨e,hr,hk⟩) _ _ _ _ _ hr h
open Go.RowKit Go.Stop
abbrev Rst:=Except Int Byt
structure RdI (l:Byt) (p:Nat) (f:Option Int) (s:Rst):Prop where
 le:p≤l.length
 is:(f=none∧s= .ok (l.drop p))∨(∃e,f=some e∧s= .error e∧1≤e∧e≤4)
section
variable {α β : Type}
def rdR (D:Byt→Except Int (α×Byt)) (s:Rst):Except Int (α×Byt):=match s with
 | .error e=>.error e
 | .ok l=>D l
def lft (d:Except Int (α×Byt)):Rst:=match d with
 | .error e=>.error e
 | .ok a=>.ok a.2
def Rv (d:Except Int (α×Byt)) (x:α):Prop:=∀a r,d= .ok (a,r)→x=a
def cod (d:Except Int α):Int:=match d with
 | .error e=>e
 | .ok _=>0
def fld (s:Rst) (e:Int):Rst:=match s with
 | .error e'=>.error e'
 | .ok l=>if e=0 then .ok l else .error e
theorem RdI.cod {l:Byt} {p:Nat} {f:Option Int} {s:Rst} (h:RdI l p f s):f.getD 0=cod s:=by
 rcases h.is with ⟨rfl,rfl⟩|⟨e,rfl,rfl,_⟩<;>rfl
theorem RdI.bad {l:Byt} {p:Nat} {f:Option Int} {s:Rst} (h:RdI l p f s):∀e,f=some e→1≤e∧e≤4:=fun e he=>by
 rcases h.is with ⟨rfl,_⟩|⟨e',rfl,_,h1⟩
 ·cases he
 ·cases he
  exact h1
theorem RdI.fail {l:Byt} {p:Nat} {f:Option Int} {s:Rst} (h:RdI l p f s) {e:Int} (he:1≤e∧e≤4):RdI l p (f.or (some e)) (fld s e):=by
 refine ⟨h.le, .inr ?_⟩
 rcases h.is with ⟨rfl,rfl⟩|⟨e',rfl,rfl,h1⟩
 ·exact ⟨e,rfl,if_neg (by omega),he⟩
 ·exact ⟨e',rfl,rfl,h1⟩
theorem RdI.fail0 {l:Byt} {p:Nat} {f:Option Int} {s:Rst} (h:RdI l p f s):RdI l p f (fld s 0):=by
 refine ⟨h.le,?_⟩
 rcases h.is with ⟨rfl,rfl⟩|⟨e',rfl,rfl,h1⟩
 ·exact .inl ⟨rfl,rfl⟩
 ·exact .inr ⟨e',rfl,rfl,h1⟩
theorem RdI.take {l:Byt} {p:Nat} {f:Option Int} {s:Rst} (h:RdI l p f s) (n:Nat):RdI l (rdTake l p f n).2.1 (rdTake l p f n).2.2 (lft (rdR (fixC n).dec s))∧Rv (rdR (fixC n).dec s) (rdTake l p f n).1∧((rdTake l p f n).1.length=n∨(rdTake l p f n).1= []):=by
 rcases h.is with ⟨rfl,rfl⟩|⟨e,rfl,rfl,h1⟩
 ·have hd:rdR (fixC n).dec (.ok (l.drop p))=if (l.drop p).length < n then .error 2 else .ok ((l.drop p).take n,(l.drop p).drop n):=rfl
  rw [hd]
  have hle:=h.le
  by_cases hn:p+n≤l.length
  ·rw [rdTake_yes hn,if_neg (by rw [List.length_drop];omega)]
   refine ⟨⟨hn, .inl ⟨rfl,?_⟩⟩,fun a r he=>?_, .inl ?_⟩
   ·show Except.ok _=_
    rw [List.drop_drop]
   ·cases he
    rfl
   ·show ((l.drop p).take n).length=n
    rw [List.length_take,List.length_drop]
    omega
  ·rw [rdTake_short (by omega),if_pos (by rw [List.length_drop];omega)]
   exact ⟨⟨h.le, .inr ⟨2,rfl,rfl,by omega,by omega⟩⟩,fun a r he=>(by cases he), .inr rfl⟩
 ·rw [rdTake_bad]
  exact ⟨⟨h.le, .inr ⟨e,rfl,rfl,h1⟩⟩,fun a r he=>(by cases he), .inr rfl⟩
theorem RdI.num {l:Byt} {p:Nat} {f:Option Int} {s:Rst} (h:RdI l p f s) (n:Nat) (C:Cdc Nat) (hC:∀l,C.dec l=if l.length < n then .error 2 else .ok (numV (l.take n),l.drop n)):RdI l (rdTake l p f n).2.1 (rdTake l p f n).2.2 (lft (rdR C.dec s))∧Rv (rdR C.dec s) (numV (rdTake l p f n).1):=by
 obtain ⟨h1,h2,_⟩:=h.take n
 have e1:lft (rdR C.dec s)=lft (rdR (fixC n).dec s):=by
  cases s with
  |error e=>rfl
  |ok r=>
   show lft (C.dec r)=lft (if r.length < n then .error 2 else .ok (r.take n,r.drop n))
   rw [hC]
   split<;>rfl
 rw [e1]
 refine ⟨h1,fun a r he=>?_⟩
 cases s with
 |error e=>cases he
 |ok x=>
  have he:C.dec x= .ok (a,r):=he
  have h2:Rv (if x.length < n then .error 2 else .ok (x.take n,x.drop n)) (rdTake l p f n).1:=h2
  rw [hC] at he
  split at he
  ·cases he
  ·rename_i hx
   rw [if_neg hx] at h2
   cases he
   rw [h2 _ _ rfl]
theorem lft_map {C:Cdc α} {f:α→β} {g:β→α} {hg:∀a,C.ok a→g (f a)=a} {s:Rst}:lft (rdR (mapC C f g hg).dec s)=lft (rdR C.dec s):=by
 cases s with
 |error e=>rfl
 |ok l=>
  show lft (match C.dec l with| .error e=>.error e| .ok (a,r)=>.ok (f a,r))=lft (C.dec l)
  cases C.dec l<;>rfl
theorem rv_map {C:Cdc α} {f:α→β} {g:β→α} {hg:∀a,C.ok a→g (f a)=a} {s:Rst} {x:α} (h:Rv (rdR C.dec s) x):Rv (rdR (mapC C f g hg).dec s) (f x):=fun a r he=>by
 cases s with
 |error e=>cases he
 |ok l=>
  have he:(match C.dec l with| .error e=>.error e| .ok (a,r)=>.ok (f a,r))=Except.ok (a,r):=he
  have h:Rv (C.dec l) x:=h
  cases hd:C.dec l with
  |error e=>rw [hd] at he;cases he
  |ok y=>
   rw [hd] at he
   cases he
   rw [h _ _ hd]
theorem lft_seq {C:Cdc α} {D:Cdc β} {s:Rst}:lft (rdR (seqC C D).dec s)=lft (rdR D.dec (lft (rdR C.dec s))):=by
 cases s with
 |error e=>rfl
 |ok l=>
  show lft (match C.dec l with| .error e=>.error e| .ok (a,r)=>match D.dec r with| .error e=>.error e| .ok (b,r')=>.ok ((a,b),r'))=lft (rdR D.dec (lft (C.dec l)))
  cases C.dec l with
  |error e=>rfl
  |ok a=>
   show lft (match D.dec a.2 with| .error e=>.error e| .ok (b,r')=>.ok ((a.1,b),r'))=lft (D.dec a.2)
   cases D.dec a.2<;>rfl
theorem rv_seq {C:Cdc α} {D:Cdc β} {s:Rst} {x:α} {y:β} (h1:Rv (rdR C.dec s) x) (h2:Rv (rdR D.dec (lft (rdR C.dec s))) y):Rv (rdR (seqC C D).dec s) (x,y):=fun a r he=>by
 cases s with
 |error e=>cases he
 |ok l=>
  have he:(match C.dec l with| .error e=>.error e| .ok (a,r)=>match D.dec r with| .error e=>.error e| .ok (b,r')=>.ok ((a,b),r'))=Except.ok (a,r):=he
  have h1:Rv (C.dec l) x:=h1
  have h2:Rv (rdR D.dec (lft (C.dec l))) y:=h2
  cases hd:C.dec l with
  |error e=>rw [hd] at he;cases he
  |ok u=>
   rw [hd] at he h2
   have he:(match D.dec u.2 with| .error e=>.error e| .ok (b,r')=>.ok ((u.1,b),r'))=Except.ok (a,r):=he
   have h2:Rv (D.dec u.2) y:=h2
   cases hd2:D.dec u.2 with
   |error e=>rw [hd2] at he;cases he
   |ok v=>
    rw [hd2] at he
    cases he
    rw [h1 _ _ hd,h2 _ _ hd2]
theorem lft_chk {C:Cdc α} {p:α→Bool} {s:Rst} {x:α} (h:Rv (rdR C.dec s) x):lft (rdR (chkC C p).dec s)=fld (lft (rdR C.dec s)) (if p x=true then 0 else 4):=by
 cases s with
 |error e=>rfl
 |ok l=>
  show lft (match C.dec l with| .error e=>.error e| .ok (a,r)=>if p a=true then .ok (a,r) else .error 4)=fld (lft (C.dec l)) _
  have h:Rv (C.dec l) x:=h
  cases hd:C.dec l with
  |error e=>rfl
  |ok u=>
   rw [h _ _ hd]
   show lft (if p u.1=true then .ok (u.1,u.2) else .error 4)=fld (.ok u.2) _
   cases p u.1<;>rfl
theorem rv_chk {C:Cdc α} {p:α→Bool} {s:Rst} {x:α} (h:Rv (rdR C.dec s) x):Rv (rdR (chkC C p).dec s) x:=fun a r he=>by
 cases s with
 |error e=>cases he
 |ok l=>
  have he:(match C.dec l with| .error e=>.error e| .ok (a,r)=>if p a=true then .ok (a,r) else .error 4)=Except.ok (a,r):=he
  have h:Rv (C.dec l) x:=h
  cases hd:C.dec l with
  |error e=>rw [hd] at he;cases he
  |ok u=>
   obtain ⟨u1,u2⟩:=u
   rw [hd] at he
   have he:(if p u1=true then .ok (u1,u2) else .error 4:Except Int (α×Byt))=Except.ok (a,r):=he
   split at he
   ·cases he
    exact h _ _ hd
   ·cases he
theorem lft_byt {N:Cdc Nat} {s:Rst} {n:Nat} (h:Rv (rdR N.dec s) n):lft (rdR (bytC N).dec s)=lft (rdR (fixC n).dec (lft (rdR N.dec s))):=by
 cases s with
 |error e=>rfl
 |ok l=>
  show lft (match N.dec l with| .error e=>.error e| .ok (n,r)=>if r.length < n then .error 2 else .ok (r.take n,r.drop n))=lft (rdR (fixC n).dec (lft (N.dec l)))
  have h:Rv (N.dec l) n:=h
  cases hd:N.dec l with
  |error e=>rfl
  |ok u=>
   rw [h _ _ hd]
   rfl
theorem rv_byt {N:Cdc Nat} {s:Rst} {n:Nat} {x:Byt} (h:Rv (rdR N.dec s) n) (h2:Rv (rdR (fixC n).dec (lft (rdR N.dec s))) x):Rv (rdR (bytC N).dec s) x:=fun a r he=>by
 cases s with
 |error e=>cases he
 |ok l=>
  have he:(match N.dec l with| .error e=>.error e| .ok (n,r)=>if r.length < n then .error 2 else .ok (r.take n,r.drop n))=Except.ok (a,r):=he
  have h:Rv (N.dec l) n:=h
  have h2:Rv (rdR (fixC n).dec (lft (N.dec l))) x:=h2
  cases hd:N.dec l with
  |error e=>rw [hd] at he;cases he
  |ok u=>
   rw [h _ _ hd,hd] at h2
   rw [hd] at he
   exact h2 _ _ he
theorem lft_pck {N:Cdc Nat} {F:Ful2 α} {s:Rst} {x:Byt} (h:Rv (rdR (bytC N).dec s) x):lft (rdR (pckC N F).dec s)=fld (lft (rdR (bytC N).dec s)) (cod (F.dec x)):=by
 cases s with
 |error e=>rfl
 |ok l=>
  show lft (match (bytC N).dec l with| .error e=>.error e| .ok (b,r)=>match F.dec b with| .error e=>.error e| .ok a=>.ok (a,r))=fld (lft ((bytC N).dec l)) (cod (F.dec x))
  have h:Rv ((bytC N).dec l) x:=h
  cases hd:(bytC N).dec l with
  |error e=>rfl
  |ok u=>
   rw [h _ _ hd]
   show lft (match F.dec u.1 with| .error e=>.error e| .ok a=>.ok (a,u.2))=fld (.ok u.2) (cod (F.dec u.1))
   cases hf:F.dec u.1 with
   |error e=>exact (if_neg (F.err _ _ hf)).symm
   |ok a=>rfl
theorem rv_pck {N:Cdc Nat} {F:Ful2 α} {s:Rst} {x:Byt} {y:α} (h:Rv (rdR (bytC N).dec s) x) (h2:∀a,F.dec x= .ok a→y=a):Rv (rdR (pckC N F).dec s) y:=fun a r he=>by
 cases s with
 |error e=>cases he
 |ok l=>
  have he:(match (bytC N).dec l with| .error e=>.error e| .ok (b,r)=>match F.dec b with| .error e=>.error e| .ok a=>.ok (a,r))=Except.ok (a,r):=he
  have h:Rv ((bytC N).dec l) x:=h
  cases hd:(bytC N).dec l with
  |error e=>rw [hd] at he;cases he
  |ok u=>
   rw [hd] at he
   have he:(match F.dec u.1 with| .error e=>.error e| .ok a=>.ok (a,u.2))=Except.ok (a,r):=he
   rw [←h _ _ hd] at he
   cases hf:F.dec x with
   |error e=>rw [hf] at he;cases he
   |ok z=>
    rw [hf] at he
    cases he
    exact h2 _ hf
theorem lft_lst {N:Cdc Nat} {C:Cdc α} {s:Rst} {n:Nat} (h:Rv (rdR N.dec s) n):lft (rdR (lstC N C).dec s)=lft (rdR (repD C n) (lft (rdR N.dec s))):=by
 cases s with
 |error e=>rfl
 |ok l=>
  show lft (match N.dec l with| .error e=>.error e| .ok (n,r)=>repD C n r)=lft (rdR (repD C n) (lft (N.dec l)))
  have h:Rv (N.dec l) n:=h
  cases hd:N.dec l with
  |error e=>rfl
  |ok u=>
   rw [h _ _ hd]
   rfl
theorem rv_lst {N:Cdc Nat} {C:Cdc α} {s:Rst} {n:Nat} {x:List α} (h:Rv (rdR N.dec s) n) (h2:Rv (rdR (repD C n) (lft (rdR N.dec s))) x):Rv (rdR (lstC N C).dec s) x:=fun a r he=>by
 cases s with
 |error e=>cases he
 |ok l=>
  have he:(match N.dec l with| .error e=>.error e| .ok (n,r)=>repD C n r)=Except.ok (a,r):=he
  have h:Rv (N.dec l) n:=h
  have h2:Rv (rdR (repD C n) (lft (N.dec l))) x:=h2
  cases hd:N.dec l with
  |error e=>rw [hd] at he;cases he
  |ok u=>
   rw [h _ _ hd,hd] at h2
   rw [hd] at he
   exact h2 _ _ he
structure RpI (C:Cdc α) (n:Nat) (s0:Rst) (k:Nat) (s:Rst) (acc:List α):Prop where
 lft:lft (rdR (repD C n) s0)=lft (rdR (repD C k) s)
 rv:∀ys r,rdR (repD C n) s0= .ok (ys,r)→∃xs,rdR (repD C k) s= .ok (xs,r)∧ys=acc++xs
theorem RpI.start {C:Cdc α} {n:Nat} {s0:Rst}:RpI C n s0 n s0 []:=⟨rfl,fun ys _ h=>⟨ys,h,rfl⟩⟩
theorem RpI.next {C:Cdc α} {n k:Nat} {s0 s:Rst} {acc:List α} {x:α} (h:RpI C n s0 (k+1) s acc) (hx:Rv (rdR C.dec s) x):RpI C n s0 k (Go.Proofs.YtpbapnlnheahnaaGreatDoor.lft (rdR C.dec s)) (acc++ [x]):=by
 cases s with
 |error e=>exact ⟨h.lft,fun ys r he=>by obtain ⟨xs,h1,_⟩:=h.rv ys r he;cases h1⟩
 |ok l=>
  have hx:Rv (C.dec l) x:=hx
  refine ⟨h.lft.trans ?_,fun ys r he=>?_⟩
  ·show Go.Proofs.YtpbapnlnheahnaaGreatDoor.lft (match C.dec l with| .error e=>.error e| .ok (a,r)=>match repD C k r with| .error e=>.error e| .ok (zs,r')=>.ok (a::zs,r'))=_
   show _=Go.Proofs.YtpbapnlnheahnaaGreatDoor.lft (rdR (repD C k) (Go.Proofs.YtpbapnlnheahnaaGreatDoor.lft (C.dec l)))
   cases C.dec l with
   |error e=>rfl
   |ok u=>
    show Go.Proofs.YtpbapnlnheahnaaGreatDoor.lft (match repD C k u.2 with| .error e=>.error e| .ok (zs,r')=>.ok (u.1::zs,r'))=Go.Proofs.YtpbapnlnheahnaaGreatDoor.lft (repD C k u.2)
    cases repD C k u.2<;>rfl
  ·obtain ⟨xs,h1,h2⟩:=h.rv ys r he
   have h1:(match C.dec l with| .error e=>.error e| .ok (a,r)=>match repD C k r with| .error e=>.error e| .ok (zs,r')=>.ok (a::zs,r'))=Except.ok (xs,r):=h1
   show ∃xs,rdR (repD C k) (Go.Proofs.YtpbapnlnheahnaaGreatDoor.lft (C.dec l))= .ok (xs,r)∧ys=acc++ [x]++xs
   cases hd:C.dec l with
   |error e=>rw [hd] at h1;cases h1
   |ok u=>
    rw [hd] at h1
    have h1:(match repD C k u.2 with| .error e=>.error e| .ok (zs,r')=>.ok (u.1::zs,r'))=Except.ok (xs,r):=h1
    cases hd2:repD C k u.2 with
    |error e=>rw [hd2] at h1;cases h1
    |ok v=>
     rw [hd2] at h1
     cases h1
     refine ⟨v.1,hd2,?_⟩
     rw [h2,hx _ _ hd,List.append_assoc]
     rfl
theorem RpI.stop {C:Cdc α} {n k:Nat} {s0 s:Rst} {acc:List α} (h:RpI C n s0 k s acc) (hk:k=0∨cod s≠0):Go.Proofs.YtpbapnlnheahnaaGreatDoor.lft (rdR (repD C n) s0)=s∧Rv (rdR (repD C n) s0) acc:=by
 cases s with
 |error e=>exact ⟨h.lft,fun ys r he=>by obtain ⟨xs,h1,_⟩:=h.rv ys r he;cases h1⟩
 |ok l=>
  obtain rfl:k=0:=by
   rcases hk with rfl|hk
   ·rfl
   ·exact absurd rfl hk
  refine ⟨h.lft,fun ys r he=>?_⟩
  obtain ⟨xs,h1,h2⟩:=h.rv ys r he
  have h1:Except.ok ([],l)=Except.ok (xs,r):=h1
  cases h1
  rw [h2,List.append_nil]
end
theorem rd_cutz {P:Program} {w:World} {ρ:Operand→Value} {o:Oper} {t e:TypeId} {x:Operand} {g:Value→Prop} {lo hi mx:Operand} (hop:o.op= .slice t x (some lo) (some hi) (some mx)) (ht:P.underlying t=some (.slice e)) {i:TypeInfo} (hi':P.info? e=some i) (hs:i.size=1) {A:Option Addr} {len cap:Nat} (hx:ρ x= .slice A len cap)
  (l:Nat) {kl kh km:IntKind} {zl zh zm:Int} (hl:ρ lo= .int kl zl) (hh:ρ hi= .int kh zh) (hm:ρ mx= .int km zm) (el:zl=l) (eh:zh=l) (em:zm=l) (hc:l≤cap) (hk:g (.slice A 0 0)):Rd P ρ o w g:=by
 subst el eh em
 refine ⟨_,fun w' _=>?_,hk⟩
 have b1:(0:Int)≤(l:Int)∧(l:Int)≤(cap:Int):=by omega
 have b2:(0:Int)≤(l:Int)∧(l:Int)≤(l:Int):=by omega
 simp only [execOp,hop,hx,Option.map_some,hl,hh,hm,Instr.sliceAt,Instr.slice,Sem.run_bind,run_underlying ht,Result.andThen_ok,Instr.sliceBounds,Instr.sliceBound,asIntOf,Sem.run_pure,if_pos b1,if_pos b2,Int.toNat_natCast,Option.isSome_some,if_true,sizeOf,typeInfo,hi',hs]
 simp [hi',Sem.run,hs]
section
variable {w0 : World} {b p : Nat} {q : Sl UInt8} {f : Flt} {s : Rst}
theorem rtakeA_any (n:Nat) (hn:n≤1000000) (hp0:p≤q.l.length) (hq:q.l.length≤1000000) (h:(star (rdRs b q p f)).ok w0):Calls Tryz.prog 115 #[ptr b,i64 n, .bool true] w0 fun r w'=>
  ∃(s:Sl UInt8) (f':Flt),s.l=(rdTake q.l p (badE f) n).1∧badE f'=(rdTake q.l p (badE f) n).2.2∧r= .returned s.v∧SlAt w'.heap.size w' u8L 1 s∧Mut (star (rdRs b q p f)) (star (rdRs b q (rdTake q.l p (badE f) n).2.1 f')) w0 w':=by
 by_cases hf:f=none→1≤n
 ·exact rtake_any n hn hf hp0 hq h
 ·obtain ⟨rfl,hn0⟩:f=none∧n=0:=by
   refine ⟨Classical.byContradiction fun hh=>hf fun h2=>absurd h2 hh,Classical.byContradiction fun hh=>hf fun _=>by omega⟩
  subst hn0
  have hp:=Hp.open h
  have u2:=Tryz.underlying34
  obtain ⟨i8,hi8,hs8⟩:∃i,Tryz.prog.info? 5=some i∧i.size=1:=by
   obtain ⟨_,i,_,h1,_,h2,_⟩:=el_u8
   exact ⟨i,h1,h2⟩
  have hqc:q.l.length≤q.c:=(hp.row (j:=1) rfl).le
  have hqn:=(hp.row (j:=1) rfl).nil
  refine calls_x (args:= [_,_,_]) tabOk Tryz.func115 Tryz.ntmps115 Tryz.results115 rfl (Nat.le_of_ble_eq_true rfl) ?_
  ((conv=>whnf);repeat' ((first|((with_reducible apply br_id);first|with_reducible refine br_t ?_|with_reducible refine br_f ?_|with_reducible refine br_not ?_|((with_reducible refine br_dec (fun hx=>?_) (fun hx=>?_))<;>(try (exfalso;first|omega|contradiction))))|((with_reducible apply ar_id);first|(refine ar_n (p) (by omega) (by omega) ?_)|refine ar_i64 (by omega) ?_)|((with_reducible apply cn_id);refine cn rfl ?_)|((with_reducible apply ld_id);apply ld_hs hp;(focus repeat' constructor);exact rfl)|((with_reducible apply st_id);apply st_hs hp;(focus repeat' constructor);exact rfl;exact rfl;clear hp;intro w hp;(try dsimp only [List.set] at hp))|((with_reducible apply gen_id);(refine gen_bin (v:= .bool false) rfl (eqi_guard0 ..) (by rfl) ?_))|((with_reducible apply dr_id);refine dr_auto tabOk (by kernel_rfl) (by decide+kernel) ?_;(try replace hp:=hp.drew))|((with_reducible apply cl_id);(refine cl_eq ((nonr_any b (cell_of_heap (hp.cel_get (j:=0) rfl) rfl))) rfl rfl ?_;rintro e w ⟨rfl,hcc⟩;replace hp:=hp.call0 hcc;refine ⟨_,rfl,?_⟩))|((with_reducible apply rd_id);first|(refine rd_cutz rfl u2 hi8 hs8 rfl p rfl rfl rfl rfl (by omega) (by omega) (by omega) ?_)|(apply rd_len;exact rfl;exact rfl;assumption)))<;>(conv=>whnf)))
  have e1:rdTake q.l p (badE none) 0=([],p,none):=rdTake_yes (n:=0) hp0
  rw [e1]
  exact ps_val (v':= .slice q.A 0 0) rfl ⟨⟨q.A,0, []⟩,none,rfl,rfl,rfl,⟨Nat.le_refl _,by simp [maxLen],fun _=>rfl,fun hh=>absurd rfl hh⟩,hp.shut (.refl _)⟩
theorem rnumI_any (n:Nat) (C:Cdc Nat) (hC:∀l,C.dec l=if l.length < n then .error 2 else .ok (numV (l.take n),l.drop n)) (hn:1≤n∧n≤8) (hI:RdI q.l p (badE f) s) (hq:q.l.length≤1000000) (h:(star (rdRs b q p f)).ok w0):Calls Tryz.prog 64 #[ptr b,i64 n] w0 fun r w'=>
  ∃(x p':Nat) (f':Flt),Rv (rdR C.dec s) x∧x < 256 ^ n∧RdI q.l p' (badE f') (lft (rdR C.dec s))∧r= .returned (.int .u64 (x:Nat))∧Mut (star (rdRs b q p f)) (star (rdRs b q p' f')) w0 w':=by
 refine (rnum_any n hn hI.le hq h).mono ?_
 rintro r w ⟨f',hf',rfl,hm⟩
 obtain ⟨h1,h2⟩:=hI.num n C hC
 have h3:=(rdTake_le (f:=badE f) (n:=n) hI.le).2
 refine ⟨_,_,f',h2,Nat.lt_of_lt_of_le (numV_lt _) (Nat.pow_le_pow_right (by omega) h3),?_,rfl,hm⟩
 rw [hf']
 exact h1
theorem rbytesI_any (n:Nat) (hn:n≤1000000) (hI:RdI q.l p (badE f) s) (hq:q.l.length≤1000000) (h:(star (rdRs b q p f)).ok w0):Calls Tryz.prog 66 #[ptr b,i64 n] w0 fun r w'=>
  ∃(x:Sl UInt8) (p':Nat) (f':Flt),Rv (rdR (fixC n).dec s) x.l∧x.l.length≤n∧RdI q.l p' (badE f') (lft (rdR (fixC n).dec s))∧r= .returned x.v∧Mut (star (rdRs b q p f)) (star (rowR 5 1 u8L x::rdRs b q p' f')) w0 w':=by
 have hp:=Hp.start1 h
 have hle:=(rdTake_le (f:=badE f) (n:=n) hI.le).2
 obtain ⟨g1,g2,_⟩:=hI.take n
 refine calls_x (args:= [_,_]) tabOk Tryz.func66 Tryz.ntmps66 Tryz.results66 rfl (Nat.le_of_ble_eq_true rfl) ?_
 ((conv=>whnf))
 refine cl_eq (rtakeA_any n hn hI.le hq (hp.get (j:=0) rfl)) rfl rfl ?_
 rintro r w ⟨s,f',hs,hf',rfl,hat,hm⟩
 replace hp:=hp.via (j:=0) rfl hm
 dsimp only [List.set] at hp
 clear hm
 refine ⟨_,rfl,?_⟩
 rw [←hs] at g2 hle
 rw [←hf'] at g1
 ((conv=>whnf);repeat' (((with_reducible apply gen_id);(refine gen_app0 rfl hp el_u8 rfl s rfl hat (fun _ _=>rfl) u8_one (by omega) (by simp only [maxLen];omega) ?_);clear hp;intro A1 c1 w hcc hp)<;>(conv=>whnf)))
 have h2:=((hp.perm (.swap ..)).unfold).perm (List.perm_append_singleton _ _)
 exact ps_val (v':= .slice A1 s.l.length c1) rfl ⟨⟨A1,c1,s.l⟩,_,f',g2,hle,g1,rfl,h2.shut (.refl _)⟩
theorem rfailI_any (e:Int) (he:e=0∨(1≤e∧e≤4)) (hI:RdI q.l p (badE f) s) (h:(star (rdRs b q p f)).ok w0):Calls Tryz.prog 71 #[ptr b,i64 e] w0 fun r w'=>∃f':Flt,RdI q.l p (badE f') (fld s e)∧r= .returned (.tuple #[])∧Mut (star (rdRs b q p f)) (star (rdRs b q p f')) w0 w':=by
 rcases he with rfl|he
 ·have hp:=Hp.open h
  cases f with
  |none=>
   refine calls_x (args:= [_,_]) tabOk Tryz.func71 Tryz.ntmps71 Tryz.results71 rfl (Nat.le_of_ble_eq_true rfl) ?_
   ((conv=>whnf);repeat' ((first|((with_reducible apply br_id);first|with_reducible refine br_t ?_|with_reducible refine br_f ?_|with_reducible refine br_not ?_|((with_reducible refine br_ne (fun hx=>?_) (fun hx=>?_))<;>(try (exfalso;first|omega|contradiction))))|((with_reducible apply ld_id);apply ld_hs hp;(focus repeat' constructor);exact rfl)|((with_reducible apply gen_id);(refine gen_bin (v:= .bool true) rfl (eqi_guard0 ..) (by rfl) ?_))|((with_reducible apply cl_id);(refine cl_eq ((nonr_any b (cell_of_heap (hp.cel_get (j:=0) rfl) rfl))) rfl rfl ?_;rintro e w ⟨rfl,hcc⟩;replace hp:=hp.call0 hcc;refine ⟨_,rfl,?_⟩)))<;>(conv=>whnf)))
   exact ps_val (v':= .tuple #[]) rfl ⟨none,hI.fail0,rfl,hp.shut (.refl _)⟩
  |some x=>
   obtain ⟨x,y,e'⟩:=x
   refine calls_x (args:= [_,_]) tabOk Tryz.func71 Tryz.ntmps71 Tryz.results71 rfl (Nat.le_of_ble_eq_true rfl) ?_
   ((conv=>whnf);repeat' ((first|((with_reducible apply br_id);first|with_reducible refine br_t ?_|with_reducible refine br_f ?_|with_reducible refine br_not ?_)|((with_reducible apply ld_id);apply ld_hs hp;(focus repeat' constructor);exact rfl)|((with_reducible apply gen_id);(refine gen_bin (v:= .bool false) rfl (eqi_guardr ..) (by rfl) ?_))|((with_reducible apply cl_id);(refine cl_eq ((nonr_any b (cell_of_heap (hp.cel_get (j:=0) rfl) rfl))) rfl rfl ?_;rintro e w ⟨rfl,hcc⟩;replace hp:=hp.call0 hcc;refine ⟨_,rfl,?_⟩)))<;>(conv=>whnf)))
   exact ps_val (v':= .tuple #[]) rfl ⟨some (x,y,e'),hI.fail0,rfl,hp.shut (.refl _)⟩
 ·refine (rfail_any e (by omega) h).mono ?_
  rintro r w ⟨rfl,f',hf',hm⟩
  exact ⟨f',by rw [hf'];exact hI.fail he,rfl,hm⟩
theorem rerrI_any (hI:RdI q.l p (badE f) s) (h:(star (rdRs b q p f)).ok w0):Calls Tryz.prog 69 #[ptr b] w0 fun r w'=>r= .returned (i64 (cod s))∧Chg N0 w0 w':=by
 rw [←hI.cod]
 exact rerr_any hI.bad h
end
end Go.Proofs.YtpbapnlnheahnaaGreatDoor
