/- MImprintBytes9: parts of the proof of ImprintBytes: TailU, Err, Is, TailA, ShaP. No condition of their own. -/
import Derived.Test.YtpbapnlnheahnaaGreatDoorMImprintBytes8
import Derived.Test.YtpbapnlnheahnaaGreatDoorMImprintBytes6
import Derived.Stop.Asserts
import Derived.LaidEql
import Derived.Test.YtpbapnlnheahnaaGreatDoorMImprintBytes4
import Derived.Test.YtpbapnlnheahnaaGreatDoorMImprintBytessSlice
set_option linter.unusedSimpArgs false
set_option linter.unusedVariables false
namespace Go.Proofs.YtpbapnlnheahnaaGreatDoor
open Go.RowKit
section
variable {P : Program} {ops : Array Oper} {Q : Exit → Act → World → Prop}
theorem He.world {P:Program} {ops:Array Oper} {ws:World} {C:Prop} {T:Act→Prop}:∀{hs:List Nat} {a:Act},He P ops ws (fun a'=>C∧T a') hs a→C
 | [],_,h=>h.1
 |_::_,_,⟨_,_,_,_,hr⟩=>He.world hr
theorem He.move {P:Program} {ops:Array Oper} {w1 w2:World} {K:Act→Prop}:∀{hs:List Nat} {a:Act},(∀j∈hs,∀oj,ops[j]? =some oj→pOp oj.op=true)→He P ops w1 K hs a→He P ops w2 K hs a
 | [],_,_,h=>h
 |j::_,_,hp,⟨o,v,ho,hy,hr⟩=>⟨o,v,ho,hy.imp (fun ⟨h1,h2⟩=>⟨h1,fun w' _=>pOp_run (hp j (by simp) o ho) (h2 w1 (Chg.refl _ _)) w'⟩) id,He.move (fun j' hj'=>hp j' (by simp [hj'])) hr⟩
theorem He.allocU {ws w:World} (hsel:∀(j:Nat) (o:Oper) cs b,ops[j]? =some o→o.op≠ .select cs b) (hP:∀c a w,¬Q (.panic c) a w) {i:Nat} {oi:Oper} (hi:ops[i]? =some oi) (T:Act→World→Prop):∀(hs:List Nat) (a:Act),
  (∀j∈hs,∀oj,ops[j]? =some oj→oj.apart ops oi=true)→He P ops ws (fun a'=>wpOp P ops Q i (fun a1 w1=>a1.defers=a'.defers∧T a1 w1) a' w) hs a→wpOp P ops Q i (fun a1 w1=>a1.defers=a.defers∧He P ops ws (fun a'=>T a' w1) hs a1) a w
 | [],_,_,h=>h
 |j::hs,a,hap,⟨o,v,ho,hy,hr⟩=>by
  have ih:=He.allocU hsel hP hi T hs _ (fun j' hj'=>hap j' (by simp [hj'])) hr
  obtain ⟨h1,h2,h3⟩:=Oper.apart_spec (hap j (by simp) o ho)
  have fin:∀u w1,He P ops ws (fun a'=>T a' w1) hs ((a.put o.dst v).put oi.dst u)→(a.put oi.dst u).defers=a.defers∧He P ops ws (fun a'=>T a' w1) (j::hs) (a.put oi.dst u):=fun u w1 hh=>
   ⟨put_defers _ _ _,o,v,ho,hy.put (fun cs b=>hsel j o cs b ho) h3,by rw [←Act.put_comm a v u h2];exact hh⟩
  unfold wpOp at ih ⊢
  simp only [hi] at ih ⊢
  rw [wanted_put oi a o.dst v h1] at ih
  split at ih
  ·rename_i hw
   rw [if_pos hw]
   rcases ih with ih|⟨hasks,hl⟩
   ·refine .inl ?_
    unfold Oper.wp at ih ⊢
    rw [execOp_put oi (fun cs b=>hsel i oi cs b hi) a o.dst v h1] at ih
    generalize (execOp a.eval oi).run P w=r at ih ⊢
    cases r with
    |ok nx w'=>
     cases nx<;>simp only [Oper.upon] at ih ⊢ <;>first
      |exact fin _ _ ih.2
      |(have h4:=ih.1
        simp at h4
        done)
      |exact Rows.mono ih fun u w'' he=>fin _ _ he.2
      |(refine Calls.mono ih fun e w'' he=>?_
        cases e with
        |returned u=>exact fin _ _ he.2
        |panicked c=>exact (hP _ _ _ he).elim
        |outgrown=>exact he)
    |halt x w'=>
     cases x<;>simp only [Oper.upon] at ih
     exact (hP _ _ _ ih).elim
   ·refine .inr ⟨?_,hl⟩
    unfold Oper.asks at hasks ⊢
    rw [execOp_put oi (fun cs b=>hsel i oi cs b hi) a o.dst v h1] at hasks
    exact hasks
  ·rename_i hw
   rw [if_neg hw]
   exact fin undef w ih.2
def wpU (P:Program) (ops:Array Oper) (Q:Exit→Act→World→Prop) (gf:Nat→Bool) (ws:World):Nat→List Nat→Act→World→Prop
 |0,_,_,_=>False
 |_+1, [],a,w=>Q .normal a w
 |fuel+1,ts,a,w=>∀i∈rdyT ops ts,wpOp P ops Q i (fun a1 w1=>(gf i=true→Chg N0 ws w1∧a1.defers=a.defers)∧wpU P ops Q gf ws fuel (ts.filter fun j=> !Nat.beq j i) a1 w1) a w
theorem mix_anyU {p gf:Nat→Bool} {b:Array Nat} (M:MixT ops p gf b) {ws:World} (hP:∀c a w,¬Q (.panic c) a w):∀(fuel:Nat) (listed:Array Bool) (hs ts:List Nat) (k:Nat) (a:Act) (w:World),
  listed.size=ops.size→hs.length+ts.length≤fuel→hs.Pairwise (· < ·)→ts.Nodup→(∀i,i < ops.size→(listed.getD i true=false↔i∈hs∨i∈ts))→(∀i∈hs,p i=true∧i < ops.size)→(∀i∈ts,p i=false∧i < ops.size)→
  (∀x y,listed.getD x false=true→x < ops.size→(b.getD x 0).testBit y=true→y < ops.size→listed.getD y false=true)→
  (Chg N0 ws w∨∀j∈hs,∀oj,ops[j]? =some oj→pOp oj.op=true)→He P ops ws (fun a'=>wpU P ops Q gf ws k ts a' w) hs a→wpAny P .any ops Q fuel listed a w:=by
 intro fuel
 induction fuel with
 |zero=>
  intro listed hs ts k a w hsz hf _ _ hun _ _ _ _ h
  obtain ⟨h1,h2⟩:hs= []∧ts= []:=by
   constructor<;>exact List.eq_nil_of_length_eq_zero (by omega)
  subst h1 h2
  have h:wpU P ops Q gf ws k [] a w:=h
  refine ⟨?_,by cases k with|zero=>exact h.elim|succ k=>exact h⟩
  rw [List.eq_nil_iff_forall_not_mem]
  intro i hi
  obtain ⟨h0,o,ho,_⟩:=mem_ready.1 hi
  have:=(hun i (Array.getElem?_eq_some_iff.1 ho).1).1 h0
  simp at this
 |succ fuel ih=>
  intro listed hs ts k a w hsz hf hpw hpt hun hhs hts hcl hinv h
  have hlist:∀i,i < ops.size→(listed.getD i true=false)→listed.getD i false=false:=fun i hi h0=>getD_both h0
  refine ⟨fun hr=>?_,fun i hi=>?_⟩
  ·
   have hempty:∀x,x∉hs++ts:=by
    intro x hx
    have key:∀m x,x=m→x∈hs++ts→False:=by
     intro m
     induction m using Nat.strongRecOn with
     |_ m ihm=>
      intro x hxm hx
      have hxl:x < ops.size:=by
       rcases List.mem_append.1 hx with h1|h1
       ·exact (hhs x h1).2
       ·exact (hts x h1).2
      have hxo:ops[x]? =some ops[x]:=Array.getElem?_eq_getElem hxl
      have:x∈Region.ready .any ops listed:=by
       refine mem_ready.2 ⟨(hun x hxl).2 (List.mem_append.1 hx),ops[x],hxo,fun e he hb=>?_⟩
       have hlt:=M.back x _ hxo e he hb
       cases hle:listed.getD e.on false with
       |true=>rfl
       |false=>
        have hel:e.on < ops.size:=by omega
        have hun':listed.getD e.on true=false:=getD_in (by omega) hle
        exact (ihm e.on (by omega) e.on rfl (List.mem_append.2 ((hun e.on hel).1 hun'))).elim
      rw [hr] at this
      cases this
    exact key x x rfl hx
   have h1:hs= []:=List.eq_nil_iff_forall_not_mem.2 fun x hx=>hempty x (List.mem_append.2 (.inl hx))
   have h2:ts= []:=List.eq_nil_iff_forall_not_mem.2 fun x hx=>hempty x (List.mem_append.2 (.inr hx))
   subst h1 h2
   have h:wpU P ops Q gf ws k [] a w:=h
   cases k with
   |zero=>exact h.elim
   |succ k=>exact h
  ·obtain ⟨h0,oi,hoi,hall⟩:=mem_ready.1 hi
   have hil:i < ops.size:=(Array.getElem?_eq_some_iff.1 hoi).1
   have hdep:∀y,(b.getD i 0).testBit y=true→y < ops.size→listed.getD y false=true:=fun y hy hys=>by
    obtain ⟨e,he,hb,h1⟩:=M.dep i oi hoi y hy hys
    have h2:=hall e he hb
    rcases h1 with rfl|h1
    ·exact h2
    ·have:=M.back i oi hoi e he hb
     exact hcl e.on y h2 (by omega) h1 hys
   have hcl':∀x y,(listed.setIfInBounds i true).getD x false=true→x < ops.size→(b.getD x 0).testBit y=true→y < ops.size→(listed.setIfInBounds i true).getD y false=true:=fun x y hx hxs hy hys=>by
    by_cases hxi:i=x
    ·subst hxi;exact getD_set_true (hdep y hy hys)
    ·rw [getD_set_ne false hxi] at hx
     exact getD_set_true (hcl x y hx hxs hy hys)
   have hsz':(listed.setIfInBounds i true).size=ops.size:=by simp [hsz]
   have hset:∀x,x < ops.size→((listed.setIfInBounds i true).getD x true=false↔listed.getD x true=false∧x≠i):=fun x hx=>by
    by_cases hxi:i=x
    ·subst hxi
     have:i < listed.size:=by omega
     simp [this]
    ·rw [getD_set_ne true hxi]
     exact ⟨fun h=>⟨h,fun e=>hxi e.symm⟩,fun h=>h.1⟩
   rcases (hun i hil).1 h0 with hm|hm
   ·
    obtain ⟨pre,post,rfl⟩:=List.append_of_mem hm
    have hpw':=hpw
    rw [List.pairwise_append] at hpw'
    have hlt:∀j∈pre,j < i:=fun j hj=>hpw'.2.2 j hj i (by simp)
    have hap:∀j∈pre,∀oj,ops[j]? =some oj→oj.apart ops oi=true:=fun j hj oj hoj=>by
     rcases M.heads i j oi oj (hhs i hm).1 (hhs j (by simp [hj])).1 (hlt j hj) hoi hoj with ⟨e,he,hb,rfl⟩|h1
     ·have h2:=hall e he hb
      have h3:=(hun e.on (Array.getElem?_eq_some_iff.1 hoj).1).2 (.inl (by simp [hj]))
      rw [getD_both h3] at h2
      cases h2
     ·exact h1
    obtain ⟨v,hy,hr⟩:=He.front M.sel hoi post pre a hap h
    have hinv':Chg N0 ws w∨∀j∈pre++post,∀oj,ops[j]? =some oj→pOp oj.op=true:=hinv.imp id fun h j hj=>h j (by rcases List.mem_append.1 hj with h1|h1<;>simp [h1])
    have hK:wpAny P .any ops Q fuel (listed.setIfInBounds i true) (a.put oi.dst v) w:=by
     have hsub:(pre++post).Sublist (pre++i::post):=List.Sublist.append_left (List.sublist_cons_self _ _) _
     have hni:i∉pre++post++ts:=by
      intro hx
      rcases List.mem_append.1 hx with h1|h1
      ·rcases List.mem_append.1 h1 with h1|h1
       ·have:=hlt i h1;omega
       ·have h2:=hpw'.2.1
        rw [List.pairwise_cons] at h2
        have:=h2.1 i h1
        omega
      ·have h2:=(hhs i hm).1
       rw [(hts i h1).1] at h2
       cases h2
     refine ih _ (pre++post) ts k _ w hsz' (by simp at hf ⊢;omega) (hpw.sublist hsub) hpt (fun x hx=>?_) (fun x hx=>hhs x (by rcases List.mem_append.1 hx with h1|h1<;>simp [h1])) hts hcl' hinv' hr
     rw [hset x hx,hun x hx]
     constructor
     ·rintro ⟨h1|h1,h2⟩
      ·left
       rcases List.mem_append.1 h1 with h3|h3
       ·simp [h3]
       ·rcases List.mem_cons.1 h3 with h4|h4
        ·exact (h2 h4).elim
        ·simp [h4]
      ·exact .inr h1
     ·intro h1
      refine ⟨h1.imp (fun h2=>by rcases List.mem_append.1 h2 with h3|h3<;>simp [h3]) id,fun e=>?_⟩
      subst e
      exact hni (List.mem_append.2 h1)
    unfold wpOp
    simp only [hoi]
    rcases hy with ⟨hw,hv⟩|⟨hw,rfl⟩
    ·rw [if_pos hw]
     refine .inl ?_
     unfold Oper.wp
     have hvw:(execOp a.eval oi).run P w= .ok (.value v) w:=by
      rcases hinv with hc|hpo
      ·exact hv w hc
      ·exact pOp_run (hpo i hm oi hoi) (hv ws (Chg.refl _ _)) w
     rw [hvw]
     exact hK
    ·rw [if_neg (by rw [hw];simp)]
     exact hK
   ·
    obtain ⟨hni,_⟩:=hts i hm
    have hrd:i∈rdyT ops ts:=List.mem_filter.2 ⟨hm,by
     rw [hoi]
     refine List.all_eq_true.2 fun e he=>?_
     cases hb:Region.binds .any e with
     |false=>rfl
     |true=>
      have h1:=hall e (Array.mem_toList_iff.1 he) hb
      have h2:e.on∉ts:=fun hx=>by
       have h3:=(hun e.on (hts _ hx).2).2 (.inr hx)
       rw [getD_both h3] at h1
       cases h1
      simpa using h2⟩
    have hni2:i∉hs:=fun h1=>by
     have h2:=(hhs i h1).1
     rw [hni] at h2
     cases h2
    have hmem:∀x,x∈ts.filter (fun j=> !Nat.beq j i)↔x∈ts∧x≠i:=fun x=>by
     rw [List.mem_filter]
     refine and_congr_right fun _=>?_
     cases hb:Nat.beq x i with
     |true=>simp [Nat.eq_of_beq_eq_true hb]
     |false=>simp [Nat.ne_of_beq_eq_false hb]
    have hlen:(ts.filter fun j=> !Nat.beq j i).length < ts.length:=List.length_filter_lt_length_iff_exists.2 ⟨i,hm,by simp⟩
    have next:∀a1 w1,(Chg N0 ws w1∨∀j∈hs,∀oj,ops[j]? =some oj→pOp oj.op=true)→He P ops ws (fun a'=>wpU P ops Q gf ws (k - 1) (ts.filter fun j=> !Nat.beq j i) a' w1) hs a1→wpAny P .any ops Q fuel (listed.setIfInBounds i true) a1 w1:=fun a1 w1 hv hh=>by
     refine ih _ hs (ts.filter fun j=> !Nat.beq j i) (k - 1) a1 w1 hsz' (by omega) hpw (hpt.filter _) (fun x hx=>?_) hhs (fun x hx=>hts x ((hmem x).1 hx).1) hcl' hv hh
     rw [hset x hx,hun x hx,hmem x]
     constructor
     ·rintro ⟨h1|h1,h2⟩
      ·exact .inl h1
      ·exact .inr ⟨h1,h2⟩
     ·rintro (h1|h1)
      ·exact ⟨.inl h1,fun e=>hni2 (e▸h1)⟩
      ·exact ⟨.inr h1.1,h1.2⟩
    have h1:He P ops ws (fun a'=>wpOp P ops Q i (fun a1 w1=>(gf i=true→Chg N0 ws w1∧a1.defers=a'.defers)∧wpU P ops Q gf ws (k - 1) (ts.filter fun j=> !Nat.beq j i) a1 w1) a' w) hs a:=He.mono (fun a' h2=>by
     cases k with
     |zero=>exact h2.elim
     |succ k=>
      cases ts with
      |nil=>cases hm
      |cons t0 ts0=>exact h2 i hrd) _ _ h
    have hA:∀j∈hs,∀oj,ops[j]? =some oj→(aOp oi.op=true∨pOp oj.op=true∨gf i=true)∧oj.apart ops oi=true:=fun j hj oj hoj=>by
     have hjn:=hhs j hj
     rcases M.tails i j oi oj hni hjn.1 hoi hoj with h1|h1
     ·have hjs:j < ops.size:=hjn.2
      have h2:=hdep j h1 hjs
      have h3:=(hun j hjs).2 (.inl hj)
      rw [getD_both h3] at h2
      cases h2
     ·exact h1
    cases hAi:aOp oi.op with
    |true=>
     have h2:=He.allocU (ws:=ws) M.sel hP hoi (fun a1 w1=>Chg N0 w w1∧wpU P ops Q gf ws (k - 1) (ts.filter fun j=> !Nat.beq j i) a1 w1) hs a (fun j hj oj hoj=>(hA j hj oj hoj).2) (He.mono (fun a' h2=>wpOp_mono (fun a1 w1 (h3:CD a' w a1 w1∧_)=>⟨h3.1.2,h3.1.1,h3.2⟩) (wpOp_aOp hP hoi hAi (wpOp_mono (fun a1 w1 h3=>h3.2) h2))) _ _ h1)
     refine wpOp_mono (fun a1 w1 h3=>?_) h2
     have h4:Chg N0 w w1:=He.world h3.2
     exact next a1 w1 (hinv.imp (fun h5=>h5.trans0 h4) id) (He.mono (fun a' h5=>h5.2) _ _ h3.2)
    |false=>
     cases hGi:gf i with
     |true=>
      have h2:=He.allocU (ws:=ws) M.sel hP hoi (fun a1 w1=>Chg N0 ws w1∧wpU P ops Q gf ws (k - 1) (ts.filter fun j=> !Nat.beq j i) a1 w1) hs a (fun j hj oj hoj=>(hA j hj oj hoj).2) (He.mono (fun a' h2=>wpOp_mono (fun a1 w1 h3=>⟨(h3.1 hGi).2,(h3.1 hGi).1,h3.2⟩) h2) _ _ h1)
      refine wpOp_mono (fun a1 w1 h3=>?_) h2
      exact next a1 w1 (.inl (He.world h3.2)) (He.mono (fun a' h5=>h5.2) _ _ h3.2)
     |false=>
      have hpo:∀j∈hs,∀oj,ops[j]? =some oj→pOp oj.op=true:=fun j hj oj hoj=>((hA j hj oj hoj).1.resolve_left (by rw [hAi];simp)).resolve_right (by rw [hGi];simp)
      have h2:=He.tail M.sel hP hoi (wpU P ops Q gf ws (k - 1) (ts.filter fun j=> !Nat.beq j i)) hs a (fun j hj oj hoj=>⟨hpo j hj oj hoj,(hA j hj oj hoj).2⟩) (He.move hpo (He.mono (fun a' h2=>wpOp_mono (fun a1 w1 h3=>h3.2) h2) _ _ h1))
      exact wpOp_mono (fun a1 w1 h3=>next a1 w1 (.inr hpo) (He.move hpo h3)) h2
end
def gOp2 (o:Op):Bool:=gOp o|| match o with| .store .. =>true|_=>false
def gAt2 (ops:Array Oper) (i:Nat):Bool:=match ops[i]? with|some o=>gOp2 o.op && o.guard.isNone|none=>false
def xuF (T:Tb) (P:Program) (n:Nat) (ops:Array Oper) (gf:Nat→Bool) (ws:World) (K:Env→World→Prop) (ih:List Nat→Env→World→Prop) (ts:List Nat) (e:Env) (w:World):Prop:=
 match ts with
 | []=>K e w
 |t0::r=>conjL (fun i=>match ops[i]? with
  |some o=>bif gf i then xo T P (ev n e) o w fun v w'=>Cn (Chg N0 ws w') (fcv v fun v=>fnl ((t0::r).filter fun j=> !Nat.beq j i) fun ts'=>ih ts' (eup e o.dst v) w')
   else xl0 T P n ops (fun e' w'=>fnl ((t0::r).filter fun j=> !Nat.beq j i) fun ts'=>ih ts' e' w') [o] e w
  |none=>False) (rdyT ops (t0::r))
def xu (T:Tb) (P:Program) (n:Nat) (ops:Array Oper) (gf:Nat→Bool) (ws:World) (K:Env→World→Prop) (fuel:Nat):List Nat→Env→World→Prop:=
 Nat.rec (motive:=fun _=>List Nat→Env→World→Prop) (fun _ _ _=>False) (fun _ ih=>xuF T P n ops gf ws K ih) fuel
theorem xu_sound {P:Program} {T:Tb} (hT:TabOk P T) {n:Nat} {ops:Array Oper} {gf:Nat→Bool} {ws:World} {K:Env→World→Prop} {Q:Exit→Act→World→Prop} (hgf:∀i,gf i=true→gAt2 ops i=true) (hQ:∀e a w,Rel n e a→K e w→Q .normal a w):
  ∀(fuel:Nat) (ts:List Nat) (e:Env) (a:Act) (w:World),Rel n e a→xu T P n ops gf ws K fuel ts e w→wpU P ops Q gf ws fuel ts a w
 |0,_,_,_,_,_,h=>h.elim
 |_+1, [],e,a,w,hr,h=>hQ e a w hr h
 |fuel+1,t0::r,e,a,w,hr,h=>by
  have ih:=fun ts e a w=>xu_sound (ws:=ws) hT hgf hQ fuel ts e a w
  intro i hi
  have h1:=conjL_all (show conjL _ (rdyT ops (t0::r)) from h) i hi
  unfold wpOp
  cases ho:ops[i]? with
  |none=>rw [ho] at h1;exact h1.elim
  |some o=>
   rw [ho] at h1
   simp only at h1 ⊢
   cases hg:gf i with
   |true=>
    rw [hg] at h1
    simp only [cond_true] at h1
    have hgn:o.guard=none:=by
     have:=hgf i hg
     unfold gAt2 at this
     rw [ho] at this
     simp only [Bool.and_eq_true,Option.isNone_iff_eq_none] at this
     exact this.2
    rw [if_pos (by simp [Region.wanted,hgn])]
    exact .inl (gen_wp hr (xo_sound hT h1) fun v w' hx=>⟨fun _=>⟨hx.1,put_defers _ _ _⟩,ih _ _ _ _ (hr.put _ _) (by have h2:=hx.2;rw [fcv_eq,fnl_eq] at h2;exact h2)⟩)
   |false=>
    rw [hg] at h1
    simp only [cond_false] at h1
    exact xl_one hT (fun e1 a1 w1 hr1 hx1=>⟨fun hh=>(by cases hh),ih _ _ _ _ hr1 (by rw [fnl_eq] at hx1;exact hx1)⟩) hr h1
def lastG2 (ops:Array Oper):Nat:=(List.range ops.size).foldl (fun m i=>bif gAt2 ops i then i else m) 0
def gBut2 (ops:Array Oper) (i:Nat):Bool:=gAt2 ops i && !Nat.beq i (lastG2 ops)
theorem gBut2_at {ops:Array Oper} (i:Nat) (h:gBut2 ops i=true):gAt2 ops i=true:=by
 unfold gBut2 at h
 simp only [Bool.and_eq_true] at h
 exact h.1
theorem dr_autou {P:Program} {T:Tb} (hT:TabOk P T) {n:Nat} {id:Nat} {l:List Oper} {K:Exit→Env→World→Prop} {e:Env} {w:World} (hm:P.follows .mixedOrders=true) (hB:mixTB l.toArray (isHead (heads l 0 [])) (gBut2 l.toArray)=true)
  (h:xrs T P n l.toArray w.drew (fun _ e'=>fnl (tlix l) fun ts=>xu T P n l.toArray (gBut2 l.toArray) w.drew (fun e w=>K .normal e w) (l.length+1) ts e' w.drew) l 0 [] [] e):Dr P n (.region id l.toArray true) K e w:=by
 refine dr_of fun rr a hfl hr=>?_
 have M:=mixT_of hB
 generalize hp:isHead (heads l 0 [])=p at M
 refine Code.wpIn_mono (Q:=QX n (fun ex e w=>match ex with| .panic _=>False| .outgrown=>False|ex=>K ex e w)) ?_ ?_
 ·rintro ex a' w' ⟨e',hr',hk⟩
  cases ex<;>first
   |exact ⟨e',hr',hk⟩
   |exact hk.elim
 have hin:∀q:Nat→Bool,∀i∈(List.range l.length).filter q,q i=true∧i < l.length:=fun q i hi=>by
  have:=List.mem_filter.1 hi
  exact ⟨this.2,List.mem_range.1 this.1⟩
 have hlen:∀l:List Nat,(l.filter p).length+(l.filter fun i=> !p i).length=l.length:=fun l=>by
  induction l with
  |nil=>rfl
  |cons x r ih=>cases hx:p x<;>simp [hx]<;>omega
 refine region_in hfl (fun _ _ ⟨_,_,h⟩=>h) hm (mix_anyU M (ws:=w.drew) (fun c a w ⟨e,_,hk⟩=>hk) _ _ ((List.range l.length).filter p) ((List.range l.length).filter fun i=> !p i) (l.length+1) a _ (by simp) (by have:=hlen (List.range l.length);simp at this ⊢;omega)
  (List.pairwise_lt_range.sublist List.filter_sublist) ((List.nodup_range).sublist List.filter_sublist) (fun i hi=>?_) (fun i hi=>by simpa using hin p i hi) (fun i hi=>by simpa using hin (fun i=> !p i) i hi) (fun x y hx=>?_) (.inl (Chg.refl _ _)) ?_)
 ·have hi':i < l.length:=by simpa using hi
  constructor
  ·intro _
   cases hp:p i with
   |true=>exact .inl (List.mem_filter.2 ⟨List.mem_range.2 hi',hp⟩)
   |false=>exact .inr (List.mem_filter.2 ⟨List.mem_range.2 hi',by simp [hp]⟩)
  ·intro _
   simp [hi']
 ·rw [getD_replicate_false] at hx;cases hx
 ·have e1:=hix_at l 0 [] [] rfl
  simp only [List.nil_append,←List.range_eq_range'] at e1
  rw [←hp,e1]
  refine xrs_sound hT (sel false (heads l 0 []) l) (fun e a hr h=>?_) l 0 [] [] e a (fun j hj=>by simp) rfl hr h
  rw [fnl_eq] at h
  exact xu_sound hT (K:=fun e w=>K .normal e w) (fun i hi=>gBut2_at i hi) (fun e a w hr hk=>⟨e,hr,hk⟩) _ _ _ _ _ hr h
theorem cl_id {P:Program} {f:FuncId} {args:Array Value} {w:World} {k:Value→World→Prop} (h:Cl P f args w k):Cl P f args w k:=h
theorem cl_eq {P:Program} {f f':FuncId} {args args':Array Value} {w:World} {R:Ending→World→Prop} {k:Value→World→Prop} (h:Calls P f' args' w R) (ef:f=f') (ea:args=args') (hk:∀e w',R e w'→∃v,e= .returned v∧k v w'):Cl P f args w k:=by
 subst ef ea
 exact cl_of h hk
theorem Hp.join {S:Nat→Prop} {w0 w w':World} {rs rs':List Res} (h:Hp S w0 w rs) (h':Hp N0 w w' rs'):Hp S w0 w' (rs'++rs):=by
 have h0:=h.call0 h'.chg
 refine ⟨h0.chg,fun r hr=>?_,List.pairwise_append.2 ⟨h'.sep,h0.sep,fun r hr r' hr' b hb hb'=>?_⟩,fun r hr b hb=>?_⟩
 ·rcases List.mem_append.1 hr with hr|hr
  ·exact h'.ok r hr
  ·exact h0.ok r hr
 ·have h1:=(h'.own r hr b hb).resolve_left fun hh=>hh
  have h2:=r'.lt w (h.ok r' hr') b hb'
  omega
 ·rcases List.mem_append.1 hr with hr|hr
  ·exact .inr (Nat.le_trans h.chg.size ((h'.own r hr b hb).resolve_left fun hh=>hh))
  ·exact h0.own r hr b hb
theorem perm213 {α:Type} (a b c:α): [b,a,c].Perm [a,b,c]:= .swap ..
theorem perm132 {α:Type} (a b c:α): [a,c,b].Perm [a,b,c]:= .cons _ (.swap ..)
theorem perm231 {α:Type} (a b c:α): [b,c,a].Perm [a,b,c]:= .trans (.cons _ (.swap ..)) (.swap ..)
theorem perm312 {α:Type} (a b c:α): [c,a,b].Perm [a,b,c]:= .trans (.swap ..) (.cons _ (.swap ..))
theorem perm321 {α:Type} (a b c:α): [c,b,a].Perm [a,b,c]:= .trans (.cons _ (.swap ..)) (.trans (.swap ..) (.cons _ (.swap ..)))
theorem dr_cut {P:Program} {n:Nat} {c:Code} {K:Exit→Env→World→Prop} {e:Env} {w:World} (I:Env→World→Prop) (h:Dr P n c (fun ex e w=>match ex with| .normal=>I e w|_=>False) e w) (hk:∀e w,I e w→K .normal e w):Dr P n c K e w:=by
 refine dr_of fun rr a hfl hr=>Code.wpIn_mono ?_ (h.out rr a hfl hr)
 rintro ex a' w' ⟨e',hr',h1⟩
 cases ex<;>first
  |exact ⟨e',hr',hk _ _ h1⟩
  |exact h1.elim
open Go.RowKit Go.Stop
set_option maxRecDepth 100000
set_option maxHeartbeats 2000000
abbrev errI (n:Int):Value:= .iface 25 (.int .i64 n)
abbrev fltI (b:Nat):Value:= .iface 183 (.pointer (some ⟨b,0,none⟩))
abbrev rtyI (t:Nat):Value:= .iface 274 (.agg #[.pointer (some ⟨1,t,none⟩)])
section
variable {P : Program} {w : World} {ρ : Operand → Value} {o : Oper} {g : Value → World → Prop} {x : Operand}
theorem gen_typeOf {ts:Array TypeId} (hop:o.op= .call {callee:= .value (.func 145),args:= #[x],argTypes:=ts}) {n:Int} (hx:ρ x=errI n) (hf:ρ (.func 145)= .func (.func 145) #[] #[]) (hk:g (rtyI 25) w):Gen Tryz.prog ρ o w g:=by
 refine gen_v (v:=rtyI 25) (w':=w) ?_ hk
 simp only [execOp,hop,resolve,List.map_toArray,List.map_cons,List.map_nil,hx,hf]
 kernel_rfl
theorem gen_comparable {ts : Array TypeId} (hop : o.op = .call { callee := .invoke x "Comparable", args := #[], argTypes := ts }) (hx : ρ x = rtyI 25) (hk : g (.bool true) w) : Gen Tryz.prog ρ o w g := by
 refine gen_v (v:= .bool true) (w':=w) ?_ hk
 simp only [execOp,hop,resolve,List.map_toArray,List.map_cons,List.map_nil,hx]
 kernel_rfl
theorem gen_unwrap {ts : Array TypeId} (hop : o.op = .call { callee := .invoke x "Unwrap", args := #[], argTypes := ts }) {b : Nat} (hx : ρ x = fltI b) (hk : Cl Tryz.prog 234 #[.pointer (some ⟨b, 0, none⟩)] w g) : Gen Tryz.prog ρ o w g := by
 refine gen_of (r:= .ok (.enter 234 #[.pointer (some ⟨b,0,none⟩)]) w) ?_ hk
 simp only [execOp,hop,resolve,List.map_toArray,List.map_cons,List.map_nil,hx]
 kernel_rfl
theorem gen_mki {t:TypeId} (hop:o.op= .makeInterface t x) {v:Value} (hx:ρ x=v) (hr:(Instr.makeInterface t v).run P w= .ok (.iface t v) w) (hk:g (.iface t v) w):Gen P ρ o w g:=
 gen_v (by simp only [execOp,hop,hx,Sem.run_bind,hr,Result.andThen_ok,Sem.run_pure]) hk
theorem gen_asr {t a:TypeId} (hop:o.op= .typeAssert x t a true) {v r:Value} (hx:ρ x=v) (hr:∀w,(Instr.typeAssert v t a true).run P w= .ok r w) (hk:g r w):Gen P ρ o w g:=
 gen_v (by simp only [execOp,hop,hx,Sem.run_bind,hr,Result.andThen_ok,Sem.run_pure]) hk
end
theorem noIsE (v:Value) (xT:TypeId) (w:World):(Instr.typeAssert (.iface 25 v) xT 276 true).run Tryz.prog w= .ok (.tuple #[.nilIface, .bool false]) w:=run_typeAssert_lacksB Tryz.underlying276 (by kernel_rfl) (by kernel_rfl) v xT w
theorem noUnwrapE (v:Value) (xT:TypeId) (w:World):(Instr.typeAssert (.iface 25 v) xT 279 true).run Tryz.prog w= .ok (.tuple #[.nilIface, .bool false]) w:=run_typeAssert_lacksB Tryz.underlying279 (by kernel_rfl) (by kernel_rfl) v xT w
theorem noUnwrapsE (v:Value) (xT:TypeId) (w:World):(Instr.typeAssert (.iface 25 v) xT 281 true).run Tryz.prog w= .ok (.tuple #[.nilIface, .bool false]) w:=run_typeAssert_lacksB Tryz.underlying281 (by kernel_rfl) (by kernel_rfl) v xT w
theorem noIsF (v:Value) (xT:TypeId) (w:World):(Instr.typeAssert (.iface 183 v) xT 276 true).run Tryz.prog w= .ok (.tuple #[.nilIface, .bool false]) w:=run_typeAssert_lacksB Tryz.underlying276 (by kernel_rfl) (by kernel_rfl) v xT w
theorem hasUnwrapF (v:Value) (xT:TypeId) (w:World):(Instr.typeAssert (.iface 183 v) xT 279 true).run Tryz.prog w= .ok (.tuple #[.iface 183 v, .bool true]) w:=run_typeAssert_hasB Tryz.underlying279 (by kernel_rfl) v xT w
theorem run_eqi {P:Program} (w:World) {ti tn:TypeId} {ms:Array (String×TypeId)} {i:TypeInfo} {k:IntKind} (a b:Int)
  (hi:P.underlying ti=some (.interface ms)) (hn:P.underlying tn=some (.int k)) (hinfo:P.info? tn=some i) (hcomp:i.comparable=true):
  (binOp .eql ti (.iface tn (.int k a)) (.iface tn (.int k b))).run P w= .ok (.bool (a==b)) w:=by
 have h:∀d,(Op.equalIn (d+2) ti (.iface tn (.int k a)) (.iface tn (.int k b))).run P w= .ok (a==b) w:=fun d=>by
  simp [Op.equalIn,run_underlying hi,run_underlying hn,typeInfo,hinfo,hcomp]
 simp only [binOp]
 simp [Op.equal,Op.maxDepth,h 9998]
theorem run_eqE (w:World) (a b:Int):(binOp .eql 119 (errI a) (errI b)).run Tryz.prog w= .ok (.bool (a==b)) w:=by
 obtain ⟨i,hi,hc⟩:=Option.map_eq_some_iff.1 (show (Tryz.prog.info? 25).map (·.comparable)=some true by kernel_rfl)
 exact run_eqi w a b Tryz.underlying119 Tryz.underlying25 hi hc
theorem run_eqFE (w:World) (b:Nat) (n:Int):(binOp .eql 119 (fltI b) (errI n)).run Tryz.prog w= .ok (.bool false) w:=run_eql_iface_types _ _ _ _ Tryz.underlying119 (by decide) w
theorem run_eqNE (w:World) (n:Int):(binOp .eql 119 .nilIface (errI n)).run Tryz.prog w= .ok (.bool false) w:=run_eql_iface_nil_left w _ _ Tryz.underlying119
theorem eqi_guard (op:BinOp) (t:TypeId) (x y:Operand) (a b:TypeId) (u v:Value):eqGuard op t x y (.iface a u) (.iface b v)=pure ():=by
 cases op<;>simp [eqGuard]
theorem eqi_guardn (op:BinOp) (t:TypeId) (x y:Operand) (a:TypeId) (u:Value):eqGuard op t x y .nilIface (.iface a u)=pure ():=by
 cases op<;>simp [eqGuard]
theorem eqi_guardr (op:BinOp) (t:TypeId) (x y:Operand) (a:TypeId) (u:Value):eqGuard op t x y (.iface a u) .nilIface=pure ():=by
 cases op<;>simp [eqGuard]
theorem eqi_guard0 (op:BinOp) (t:TypeId) (x:Operand) (v:Value):eqGuard op t x (.const v) .nilIface .nilIface=pure ():=by
 cases op<;>simp [eqGuard]
theorem unwrap_any {w0:World} {bf:Nat} {y:Int} (hc:w0.cell? ⟨bf,1,none⟩=some (i64 y)):Calls Tryz.prog 234 #[ptr bf] w0 fun r w'=>r= .returned (errI y)∧Chg N0 w0 w':=by
 have hp:=Hp.start (S:=N0) w0
 refine calls_x (args:= [_]) tabOk Tryz.func234 Tryz.ntmps234 Tryz.results234 rfl (Nat.le_of_ble_eq_true rfl) ?_
 ((conv=>whnf);repeat' ((first|((with_reducible apply ld_id);(refine ld_of (hp.chg.cell0 hc) ?_))|((with_reducible apply gen_id);(refine gen_mki rfl rfl (by rfl) ?_)))<;>(conv=>whnf)))
 exact ps_val (v':=errI y) rfl ⟨rfl,hp.chg⟩
theorem is_any {w0:World} {bf:Nat} {y e:Int} (hc:w0.cell? ⟨bf,1,none⟩=some (i64 y)):Calls Tryz.prog 146 #[fltI bf,errI e, .bool true] w0 fun r w'=>r= .returned (.bool (y==e))∧Chg N0 w0 w':=by
 have hp:=Hp.start (S:=N0) w0
 refine calls_x (args:= [_,_,_]) tabOk Tryz.func146 Tryz.ntmps146 Tryz.results146 rfl (Nat.le_of_ble_eq_true rfl) ?_
 ((conv=>whnf))
 refine lp_inv (α:=Bool) (fun a=> [(0,bif a then fltI bf else errI y),(1,errI e),(2, .bool true)]) (fun a w=>Hp N0 w0 w []) (fun a=>bif a then 1 else 0) true (by (repeat' (first|exact trivial|(refine ⟨rfl,?_⟩)))) hp ?_
 clear hp
 rintro a e0 w hp
 cases a with
 |true=>
  ((conv=>whnf);repeat' ((first|((with_reducible apply br_id);first|with_reducible refine br_t ?_|with_reducible refine br_f ?_)|((with_reducible apply gen_id);first|(refine gen_bin rfl (eqi_guard ..) (run_eqFE _ _ _) ?_)|(refine gen_asr rfl rfl (noIsF _ _) ?_)|(refine gen_asr rfl rfl (hasUnwrapF _ _) ?_)|(refine gen_unwrap rfl rfl ?_)|(refine gen_bin (v:= .bool false) rfl (eqi_guardr ..) (by rfl) ?_))|((with_reducible apply cl_id);(refine cl_eq ((unwrap_any (hp.chg.cell0 hc))) rfl rfl ?_;rintro e w ⟨rfl,hcc⟩;replace hp:=hp.call0 hcc;refine ⟨_,rfl,?_⟩)))<;>(conv=>whnf)))
  exact lp_next false (by decide) (by (repeat' (first|exact trivial|(refine ⟨rfl,?_⟩)))) hp
 |false=>
  ((conv=>whnf);repeat' ((first|((with_reducible apply br_id);first|with_reducible refine br_t ?_|with_reducible refine br_f ?_|((with_reducible refine br_eq (fun hx=>?_) (fun hx=>?_))<;>(try (exfalso;first|omega|contradiction))))|((with_reducible apply gen_id);first|(refine gen_bin rfl (eqi_guard ..) (run_eqE _ _ _) ?_)|(refine gen_asr rfl rfl (noIsE _ _) ?_)|(refine gen_asr rfl rfl (noUnwrapE _ _) ?_)|(refine gen_asr rfl rfl (noUnwrapsE _ _) ?_)))<;>(conv=>whnf)))
  ·exact ps_val (v':= .bool true) rfl ⟨by rw [hx];simp,hp.chg⟩
  ·exact ps_val (v':= .bool false) rfl ⟨by rw [beq_eq_false_iff_ne.2 hx],hp.chg⟩
theorem nonr_any (b:Nat) {w0:World} (hm:w0.cell? ⟨b,0,none⟩=some (.bool true)):Calls Tryz.prog 116 #[ptr b] w0 fun r w'=>r= .returned (.bool false)∧Chg N0 w0 w':=by
 have hp:=Hp.start (S:=N0) w0
 refine calls_x (args:= [_]) tabOk Tryz.func116 Tryz.ntmps116 Tryz.results116 rfl (Nat.le_of_ble_eq_true rfl) ?_
 ((conv=>whnf);repeat' ((first|((with_reducible apply br_id);with_reducible refine br_f ?_)|((with_reducible apply ld_id);(refine ld_of (hp.chg.cell0 hm) ?_)))<;>(conv=>whnf)))
 exact ps_val (v':= .bool false) rfl ⟨rfl,hp.chg⟩
theorem eis_any {w0:World} {bf:Nat} {y e:Int} (hc:w0.cell? ⟨bf,1,none⟩=some (i64 y)):Calls Tryz.prog 117 #[fltI bf,errI e] w0 fun r w'=>r= .returned (.bool (y==e))∧Chg N0 w0 w':=by
 have hp:=Hp.start (S:=N0) w0
 refine calls_x (args:= [_,_]) tabOk Tryz.func117 Tryz.ntmps117 Tryz.results117 rfl (Nat.le_of_ble_eq_true rfl) ?_
 ((conv=>whnf);repeat' ((first|((with_reducible apply br_id);with_reducible refine br_f ?_)|((with_reducible apply gen_id);first|(refine gen_bin (v:= .bool false) rfl (eqi_guardr ..) (by rfl) ?_)|(refine gen_typeOf rfl rfl rfl ?_)|(refine gen_comparable rfl rfl ?_))|((with_reducible apply cl_id);(refine cl_eq ((is_any (hp.chg.cell0 hc))) rfl rfl ?_;rintro e w ⟨rfl,hcc⟩;replace hp:=hp.call0 hcc;refine ⟨_,rfl,?_⟩)))<;>(conv=>whnf)))
 exact ps_val (v':= .bool (y==e)) rfl ⟨rfl,hp.chg⟩
theorem eisn_any {w0:World} {e:Int}:Calls Tryz.prog 117 #[.nilIface,errI e] w0 fun r w'=>r= .returned (.bool false)∧Chg N0 w0 w':=by
 have hp:=Hp.start (S:=N0) w0
 refine calls_x (args:= [_,_]) tabOk Tryz.func117 Tryz.ntmps117 Tryz.results117 rfl (Nat.le_of_ble_eq_true rfl) ?_
 ((conv=>whnf);repeat' ((first|((with_reducible apply br_id);with_reducible refine br_t ?_)|((with_reducible apply gen_id);first|(refine gen_bin (v:= .bool true) rfl (eqi_guard0 ..) (by rfl) ?_)|(refine gen_bin (v:= .bool false) rfl (eqi_guardn ..) (run_eqNE _ _) ?_)))<;>(conv=>whnf)))
 exact ps_val (v':= .bool false) rfl ⟨rfl,hp.chg⟩
theorem eas_any {w0:World} {t:Nat} {v:Value}:Calls Tryz.prog 118 #[.nilIface, .iface t v] w0 fun r w'=>r= .returned (.bool false)∧Chg N0 w0 w':=by
 have hp:=Hp.start (S:=N0) w0
 refine calls_x (args:= [_,_]) tabOk Tryz.func118 Tryz.ntmps118 Tryz.results118 rfl (Nat.le_of_ble_eq_true rfl) ?_
 ((conv=>whnf);repeat' ((first|((with_reducible apply br_id);with_reducible refine br_t ?_)|((with_reducible apply gen_id);(refine gen_bin (v:= .bool true) rfl (eqi_guard0 ..) (by rfl) ?_)))<;>(conv=>whnf)))
 exact ps_val (v':= .bool false) rfl ⟨rfl,hp.chg⟩
structure S8 where
 a:UInt32
 b:UInt32
 c:UInt32
 d:UInt32
 e:UInt32
 f:UInt32
 g:UInt32
 h:UInt32
abbrev S8.l (s:S8):List UInt32:= [s.a,s.b,s.c,s.d,s.e,s.f,s.g,s.h]
def rot (x:UInt32) (n:Nat):UInt32:=sr x n||| sl x (32 - n)
def x3 (x y z:UInt32):UInt32:=(x ^^^ y) ^^^ z
def sg0 (x:UInt32):UInt32:=x3 (rot x 7) (rot x 18) (sr x 3)
def sg1 (x:UInt32):UInt32:=x3 (rot x 17) (rot x 19) (sr x 10)
def ep1 (x:UInt32):UInt32:=x3 (rot x 6) (rot x 11) (rot x 25)
def ep0 (x:UInt32):UInt32:=x3 (rot x 2) (rot x 13) (rot x 22)
def ch (x y z:UInt32):UInt32:=z ^^^ (x &&& (y ^^^ z))
def maj (x y z:UInt32):UInt32:=(x &&& y)||| (z &&& (x||| y))
def shaK:List UInt32:= [0x428a2f98,0x71374491,0xb5c0fbcf,0xe9b5dba5,0x3956c25b,0x59f111f1,0x923f82a4,0xab1c5ed5]++
 [0xd807aa98,0x12835b01,0x243185be,0x550c7dc3,0x72be5d74,0x80deb1fe,0x9bdc06a7,0xc19bf174]++
 [0xe49b69c1,0xefbe4786,0x0fc19dc6,0x240ca1cc,0x2de92c6f,0x4a7484aa,0x5cb0a9dc,0x76f988da]++
 [0x983e5152,0xa831c66d,0xb00327c8,0xbf597fc7,0xc6e00bf3,0xd5a79147,0x06ca6351,0x14292967]++
 [0x27b70a85,0x2e1b2138,0x4d2c6dfc,0x53380d13,0x650a7354,0x766a0abb,0x81c2c92e,0x92722c85]++
 [0xa2bfe8a1,0xa81a664b,0xc24b8b70,0xc76c51a3,0xd192e819,0xd6990624,0xf40e3585,0x106aa070]++
 [0x19a4c116,0x1e376c08,0x2748774c,0x34b0bcb5,0x391c0cb3,0x4ed8aa4a,0x5b9cca4f,0x682e6ff3]++
 [0x748f82ee,0x78a5636f,0x84c87814,0x8cc70208,0x90befffa,0xa4506ceb,0xbef9a3f7,0xc67178f2]
def shaS:S8:=⟨0x6a09e667,0xbb67ae85,0x3c6ef372,0xa54ff53a,0x510e527f,0x9b05688c,0x1f83d9ab,0x5be0cd19⟩
def nth (l:List UInt32) (i:Nat):UInt32:=l.getD i 0
theorem nth_get {l:List UInt32} {i:Nat} (h:i < l.length):l[i]? =some (nth l i):=by
 unfold nth
 rw [List.getD_eq_getElem?_getD,List.getElem?_eq_getElem h]
 rfl
def nextW (l:List UInt32):UInt32:=((sg1 (nth l (l.length - 2))+nth l (l.length - 7))+sg0 (nth l (l.length - 15)))+nth l (l.length - 16)
def sched (l:List UInt32):Nat→List UInt32
 |0=>l
 |n+1=>sched l n++ [nextW (sched l n)]
theorem sched_len (l:List UInt32):∀n,(sched l n).length=l.length+n
 |0=>rfl
 |n+1=>by rw [sched,List.length_append,sched_len l n];rfl
def rnd (k w:UInt32) (v:S8):S8:=
 ⟨((((v.h+ep1 v.e)+ch v.e v.f v.g)+k)+w)+(ep0 v.a+maj v.a v.b v.c),v.a,v.b,v.c,v.d+((((v.h+ep1 v.e)+ch v.e v.f v.g)+k)+w),v.e,v.f,v.g⟩
def rnds (W:List UInt32) (v:S8):Nat→S8
 |0=>v
 |n+1=>rnd (nth shaK n) (nth W n) (rnds W v n)
def wrd (a b c d:UInt8):UInt32:=UInt32.ofNat (((a.toNat*256+b.toNat)*256+c.toNat)*256+d.toNat)
def wordsOf:List UInt8→List UInt32
 |a::b::c::d::r=>wrd a b c d::wordsOf r
 |_=> []
def S8.add (v s:S8):S8:=⟨v.a+s.a,v.b+s.b,v.c+s.c,v.d+s.d,v.e+s.e,v.f+s.f,v.g+s.g,v.h+s.h⟩
def takeS (s:S8) (p:List UInt8):S8:=(rnds (sched (wordsOf p) 48) s 64).add s
def piecesS (s:S8) (b:List UInt8):Nat→S8
 |0=>s
 |n+1=>takeS (piecesS s b n) ((b.drop (64*n)).take 64)
def bytesOf (l:List UInt32):List UInt8:=l.flatMap fun x=> [byt x 24,byt x 16,byt x 8,byt x 0]
def be8 (n:Nat):List UInt8:= [UInt8.ofNat (n / 2 ^ 56),UInt8.ofNat (n / 2 ^ 48),UInt8.ofNat (n / 2 ^ 40),UInt8.ofNat (n / 2 ^ 32),UInt8.ofNat (n / 2 ^ 24),UInt8.ofNat (n / 2 ^ 16),UInt8.ofNat (n / 2 ^ 8),UInt8.ofNat n]
def padK (n:Nat):Nat:=(119 - n % 64) % 64
def endS (n:Nat):List UInt8:=128::(List.replicate (padK n) 0++be8 (8*n % 2 ^ 64))
def padded (b:List UInt8):List UInt8:=b++endS b.length
def shaL (b:List UInt8):List UInt8:=bytesOf (piecesS shaS (padded b) ((padded b).length / 64)).l
theorem bytesOf_len (l:List UInt32):(bytesOf l).length=4*l.length:=by
 induction l with
 |nil=>rfl
 |cons x l ih=>rw [bytesOf,List.flatMap_cons,List.length_append,←bytesOf,ih];simp;omega
theorem shaL_len (b:List UInt8):(shaL b).length=32:=by rw [shaL,bytesOf_len];rfl
theorem wordsOf_len:∀(n:Nat) (b:List UInt8),b.length=4*n→(wordsOf b).length=n
 |0, [],_=>rfl
 |n+1,a::b::c::d::r,h=>by
  rw [wordsOf,List.length_cons,wordsOf_len n r (by simp at h;omega)]
 |n+1, [],h=>by simp at h
 |n+1, [_],h=>by simp at h;omega
 |n+1, [_,_],h=>by simp at h;omega
 |n+1, [_,_,_],h=>by simp at h;omega
 |0,_::_,h=>by simp at h
theorem wordsOf_drop (b:List UInt8) (i:Nat) (h:i+4≤b.length):wordsOf (b.drop i)=wrd (b[i]) (b[i+1]) (b[i+2]) (b[i+3])::wordsOf (b.drop (i+4)):=by
 rw [List.drop_eq_getElem_cons (by omega:i < b.length),List.drop_eq_getElem_cons (by omega:i+1 < b.length),List.drop_eq_getElem_cons (by omega:i+1+1 < b.length),List.drop_eq_getElem_cons (by omega:i+1+1+1 < b.length)]
 rfl
theorem pieces_pre (s:S8) (b c:List UInt8):∀(n:Nat),64*n≤b.length→piecesS s (b++c) n=piecesS s b n
 |0,_=>rfl
 |n+1,h=>by
  rw [piecesS,piecesS,pieces_pre s b c n (by omega),List.drop_append_of_le_length (by omega),List.take_append_of_le_length (by rw [List.length_drop];omega)]
theorem pieces_more (s:S8) (b:List UInt8) (m:Nat):∀(n:Nat),piecesS (piecesS s b m) (b.drop (64*m)) n=piecesS s b (m+n)
 |0=>rfl
 |n+1=>by
  rw [piecesS,pieces_more s b m n,←Nat.add_assoc,piecesS,List.drop_drop,show 64*m+64*n=64*(m+n) by omega]
def doneS (b:List UInt8):S8:=piecesS shaS b (b.length / 64)
def restS (b:List UInt8):List UInt8:=b.drop (64*(b.length / 64))
theorem restS_len (b:List UInt8):(restS b).length=b.length % 64:=by rw [restS,List.length_drop];omega
theorem done_app (b c:List UInt8):piecesS (doneS b) (restS b++c) ((restS b++c).length / 64)=doneS (b++c)∧(restS b++c).drop (64*((restS b++c).length / 64))=restS (b++c):=by
 have h1:(b++c).drop (64*(b.length / 64))=restS b++c:=by rw [List.drop_append_of_le_length (by omega),restS]
 have h2:(b.length / 64)+(restS b++c).length / 64=(b++c).length / 64:=by
  rw [List.length_append,List.length_append,restS_len];omega
 constructor
 ·have h3:=pieces_more shaS (b++c) (b.length / 64) ((restS b++c).length / 64)
  rw [h1,pieces_pre shaS b c _ (by omega),h2] at h3
  exact h3
 ·rw [←h1,List.drop_drop,restS,←h2,h1]
  congr 1
  omega
theorem sha_of (b:List UInt8):shaL b=bytesOf (doneS (b++endS b.length)).l:=rfl
abbrev u84 (x:UInt8):UInt32:=UInt32.ofNat x.toNat
theorem u84_nat (x:UInt8):(u84 x).toNat=x.toNat:=by
 have:=x.toNat_lt
 simp only [u84,UInt32.toNat_ofNat']
 exact Nat.mod_eq_of_lt (by omega)
theorem ar_u84 {f:Int→Prop} (x:UInt8) (h:f ((u84 x).toNat:Int)):Ar .u32 (x.toNat:Int) f:=by
 refine ⟨_,?_,h⟩
 rw [wrap_u32]
theorem or_add (a b i:Nat) (h:b < 2 ^ i):a*2 ^ i||| b=a*2 ^ i+b:=by
 rw [←Nat.shiftLeft_eq,Nat.shiftLeft_add_eq_or_of_lt h]
theorem wrd_or (a b c d:UInt8):((sl (u84 a) 24||| sl (u84 b) 16)||| sl (u84 c) 8)||| u84 d=wrd a b c d:=by
 have ha:=a.toNat_lt
 have hb:=b.toNat_lt
 have hc:=c.toNat_lt
 have hd:=d.toNat_lt
 apply UInt32.toNat_inj.1
 rw [UInt32.toNat_or,UInt32.toNat_or,UInt32.toNat_or,sl_nat,sl_nat,sl_nat,u84_nat,u84_nat,u84_nat,u84_nat]
 rw [Nat.mod_eq_of_lt (by omega:a.toNat*2 ^ 24 < 4294967296),Nat.mod_eq_of_lt (by omega:b.toNat*2 ^ 16 < 4294967296),Nat.mod_eq_of_lt (by omega:c.toNat*2 ^ 8 < 4294967296)]
 rw [or_add a.toNat _ 24 (by omega)]
 rw [show a.toNat*2 ^ 24+b.toNat*2 ^ 16=(a.toNat*256+b.toNat)*2 ^ 16 by omega,or_add _ _ 16 (by omega)]
 rw [show (a.toNat*256+b.toNat)*2 ^ 16+c.toNat*2 ^ 8=((a.toNat*256+b.toNat)*256+c.toNat)*2 ^ 8 by omega,or_add _ _ 8 (by omega)]
 simp only [wrd,UInt32.toNat_ofNat']
 exact (Nat.mod_eq_of_lt (by omega)).symm
theorem ofNat8 {m n:Nat} (h:m % 256=n % 256):UInt8.ofNat m=UInt8.ofNat n:=by
 apply UInt8.toNat_inj.1
 simpa using h
theorem be8_of (n:Nat) (h:n < 2 ^ 64):bytesOf [UInt32.ofNat (n / 2 ^ 32),UInt32.ofNat n]=be8 n:=by
 have h1:(UInt32.ofNat (n / 2 ^ 32)).toNat=n / 2 ^ 32:=by
  simp only [UInt32.toNat_ofNat']
  exact Nat.mod_eq_of_lt (by omega)
 have h2:(UInt32.ofNat n).toNat=n % 2 ^ 32:=by simp only [UInt32.toNat_ofNat']
 simp only [bytesOf,be8,byt,List.flatMap_cons,List.flatMap_nil,List.append_nil,List.cons_append,List.nil_append,h1,h2]
 congr 1
 ·exact ofNat8 (by omega)
 congr 1
 ·exact ofNat8 (by omega)
 congr 1
 ·exact ofNat8 (by omega)
 congr 1
 ·exact ofNat8 (by omega)
 congr 1
 ·exact ofNat8 (by omega)
 congr 1
 ·exact ofNat8 (by omega)
 congr 1
 ·exact ofNat8 (by omega)
 congr 1
 ·exact ofNat8 (by omega)
end Go.Proofs.YtpbapnlnheahnaaGreatDoor
