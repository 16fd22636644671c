/- MImprintBytes4: parts of the proof of ImprintBytes: Tail, Sep. No condition of their own. -/
import Derived.Test.YtpbapnlnheahnaaGreatDoorMImprintBytessDraw
set_option linter.unusedSimpArgs false
set_option linter.unusedVariables false
namespace Go.Proofs.YtpbapnlnheahnaaGreatDoor
open Go.RowKit
structure Fk (A B:Prop):Prop where
 one:A
 two:B
theorem fk_id {A B:Prop} (h:Fk A B):Fk A B:=h
theorem fk_mk {A B:Prop} (a:A) (b:B):Fk A B:=⟨a,b⟩
def conjL (f:Nat→Prop):List Nat→Prop
 | []=>False
 | [i]=>f i
 |i::r=>Fk (f i) (conjL f r)
theorem conjL_all {f:Nat→Prop}:∀{l:List Nat},conjL f l→∀i∈l,f i
 | [],h,_,_=>h.elim
 | [_],h,_,hj=>by simp at hj;subst hj;exact h
 |i::j::r,h,x,hx=>by
  rcases List.mem_cons.1 hx with rfl|hx
  ·exact h.one
  ·exact conjL_all h.two x hx
def rdyT (ops:Array Oper) (ts:List Nat):List Nat:=ts.filter fun i=>match ops[i]? with
 |some o=>o.after.toList.all fun e=> !Region.binds .any e|| !ts.elem e.on
 |none=>false
section
variable {P : Program} {ops : Array Oper} {Q : Exit → Act → World → Prop}
def wpT (P:Program) (ops:Array Oper) (Q:Exit→Act→World→Prop) (gf:Nat→Bool):Nat→List Nat→Act→World→Prop
 |0,_,_,_=>False
 |_+1, [],a,w=>Q .normal a w
 |fuel+1,ts,a,w=>∀i∈rdyT ops ts,wpOp P ops Q i (fun a1 w1=>(gf i=true→CD a w a1 w1)∧wpT P ops Q gf fuel (ts.filter fun j=> !Nat.beq j i) a1 w1) a w
def mixTB (ops:Array Oper) (p gf:Nat→Bool):Bool:=
 let b:=Region.before ops
 Region.noSelect ops && depOk ops b &&
 ((List.range ops.size).all fun i=> !p i|| (List.range i).all fun j=> !p j|| match ops[i]?,ops[j]? with
  |some oi,some oj=>oi.after.any (fun e=>Region.binds .any e && e.on==j)|| oj.apart ops oi
  |_,_=>false) &&
 ((List.range ops.size).all fun i=>p i||
  ((List.range ops.size).all fun j=> !p j|| (b.getD i 0).testBit j|| match ops[i]?,ops[j]? with
   |some oi,some oj=>(aOp oi.op|| pOp oj.op|| gf i) && oj.apart ops oi
   |_,_=>false))
structure MixT (ops:Array Oper) (p gf:Nat→Bool) (b:Array Nat):Prop where
 sel:∀(j:Nat) (o:Oper) cs bl,ops[j]? =some o→o.op≠ .select cs bl
 back:∀(i:Nat) o,ops[i]? =some o→∀e∈o.after,Region.binds .any e=true→e.on < i
 dep:∀(i:Nat) o,ops[i]? =some o→∀j,(b.getD i 0).testBit j=true→j < ops.size→∃e∈o.after,Region.binds .any e=true∧(e.on=j∨(b.getD e.on 0).testBit j=true)
 heads:∀i j oi oj,p i=true→p j=true→j < i→ops[i]? =some oi→ops[j]? =some oj→(∃e∈oi.after,Region.binds .any e=true∧e.on=j)∨oj.apart ops oi=true
 tails:∀i j oi oj,p i=false→p j=true→ops[i]? =some oi→ops[j]? =some oj→(b.getD i 0).testBit j=true∨((aOp oi.op=true∨pOp oj.op=true∨gf i=true)∧oj.apart ops oi=true)
theorem mixT_of {p gf:Nat→Bool} (h:mixTB ops p gf=true):MixT ops p gf (Region.before ops):=by
 unfold mixTB at h
 simp only [Bool.and_eq_true] at h
 obtain ⟨⟨⟨hsel,hdep⟩,hheads⟩,htails⟩:=h
 have hlt:∀(i:Nat) o,ops[i]? =some o→i < ops.size:=fun i o ho=>(Array.getElem?_eq_some_iff.1 ho).1
 have hd:∀(i:Nat) o,ops[i]? =some o→_:=fun i o ho=>by
  have:=List.all_eq_true.1 hdep i (List.mem_range.2 (hlt i o ho))
  rw [ho] at this
  exact this
 refine ⟨Region.noSelect_spec hsel,fun i o ho e he hb=>?_,fun i o ho j hj hjs=>?_,fun i j oi oj hi hpj hj hoi hoj=>?_,fun i j oi oj hi hj hoi hoj=>?_⟩
 ·have h1:=hd i o ho
  simp only [Bool.and_eq_true] at h1
  have h2:=List.all_eq_true.1 h1.1 e (Array.mem_toList_iff.2 he)
  rw [hb] at h2
  simp only [Bool.not_true,Bool.false_or,Bool.and_eq_true] at h2
  have h3:=h2.1
  rw [Nat.blt_eq] at h3
  exact h3
 ·have h1:=hd i o ho
  simp only [Bool.and_eq_true] at h1
  have h2:=List.all_eq_true.1 h1.2 j (List.mem_range.2 hjs)
  rw [hj] at h2
  simp only [Bool.not_true,Bool.false_or] at h2
  obtain ⟨e,he,h3⟩:=List.any_eq_true.1 h2
  simp only [Bool.and_eq_true,Bool.or_eq_true,beq_iff_eq] at h3
  exact ⟨e,Array.mem_toList_iff.1 he,h3.1,h3.2⟩
 ·have h0:=List.all_eq_true.1 hheads i (List.mem_range.2 (hlt i oi hoi))
  rw [hi,Bool.not_true,Bool.false_or] at h0
  have h1:=List.all_eq_true.1 h0 j (List.mem_range.2 hj)
  rw [hoi,hoj,hpj,Bool.not_true,Bool.false_or] at h1
  simp only [Bool.or_eq_true] at h1
  rcases h1 with h1|h1
  ·obtain ⟨e,he,h2⟩:=Array.any_eq_true'.1 h1
   simp only [Bool.and_eq_true,beq_iff_eq] at h2
   exact .inl ⟨e,he,h2⟩
  ·exact .inr h1
 ·have h1:=List.all_eq_true.1 htails i (List.mem_range.2 (hlt i oi hoi))
  rw [hi,Bool.false_or] at h1
  have h2:=List.all_eq_true.1 h1 j (List.mem_range.2 (hlt j oj hoj))
  rw [hoi,hoj,hj,Bool.not_true,Bool.false_or] at h2
  simp only [Bool.or_eq_true,Bool.and_eq_true] at h2
  refine h2.imp id fun ⟨h3,h4⟩=>⟨?_,h4⟩
  rcases h3 with (h3|h3)|h3
  ·exact .inl h3
  ·exact .inr (.inl h3)
  ·exact .inr (.inr h3)
theorem mix_anyT {p gf:Nat→Bool} {b:Array Nat} (M:MixT ops p gf b) (hP:∀c a w,¬Q (.panic c) a w):∀(fuel:Nat) (listed:Array Bool) (hs ts:List Nat) (k:Nat) (a:Act) (w:World),
  listed.size=ops.size→hs.length+ts.length≤fuel→hs.Pairwise (· < ·)→ts.Nodup→(∀i,i < ops.size→(listed.getD i true=false↔i∈hs∨i∈ts))→(∀i∈hs,p i=true∧i < ops.size)→(∀i∈ts,p i=false∧i < ops.size)→
  (∀x y,listed.getD x false=true→x < ops.size→(b.getD x 0).testBit y=true→y < ops.size→listed.getD y false=true)→
  He P ops w (fun a'=>wpT P ops Q gf k ts a' w) hs a→wpAny P .any ops Q fuel listed a w:=by
 intro fuel
 induction fuel with
 |zero=>
  intro listed hs ts k a w hsz hf _ _ hun _ _ _ h
  obtain ⟨h1,h2⟩:hs= []∧ts= []:=by
   constructor<;>exact List.eq_nil_of_length_eq_zero (by omega)
  subst h1 h2
  have h:wpT P ops Q gf k [] a w:=h
  refine ⟨?_,by cases k with|zero=>exact h.elim|succ k=>exact h⟩
  rw [List.eq_nil_iff_forall_not_mem]
  intro i hi
  obtain ⟨h0,o,ho,_⟩:=mem_ready.1 hi
  have:=(hun i (Array.getElem?_eq_some_iff.1 ho).1).1 h0
  simp at this
 |succ fuel ih=>
  intro listed hs ts k a w hsz hf hpw hpt hun hhs hts hcl h
  have hlist:∀i,i < ops.size→(listed.getD i true=false)→listed.getD i false=false:=fun i hi h0=>getD_both h0
  refine ⟨fun hr=>?_,fun i hi=>?_⟩
  ·
   have hempty:∀x,x∉hs++ts:=by
    intro x hx
    have key:∀m x,x=m→x∈hs++ts→False:=by
     intro m
     induction m using Nat.strongRecOn with
     |_ m ihm=>
      intro x hxm hx
      have hxl:x < ops.size:=by
       rcases List.mem_append.1 hx with h1|h1
       ·exact (hhs x h1).2
       ·exact (hts x h1).2
      have hxo:ops[x]? =some ops[x]:=Array.getElem?_eq_getElem hxl
      have:x∈Region.ready .any ops listed:=by
       refine mem_ready.2 ⟨(hun x hxl).2 (List.mem_append.1 hx),ops[x],hxo,fun e he hb=>?_⟩
       have hlt:=M.back x _ hxo e he hb
       cases hle:listed.getD e.on false with
       |true=>rfl
       |false=>
        have hel:e.on < ops.size:=by omega
        have hun':listed.getD e.on true=false:=getD_in (by omega) hle
        exact (ihm e.on (by omega) e.on rfl (List.mem_append.2 ((hun e.on hel).1 hun'))).elim
      rw [hr] at this
      cases this
    exact key x x rfl hx
   have h1:hs= []:=List.eq_nil_iff_forall_not_mem.2 fun x hx=>hempty x (List.mem_append.2 (.inl hx))
   have h2:ts= []:=List.eq_nil_iff_forall_not_mem.2 fun x hx=>hempty x (List.mem_append.2 (.inr hx))
   subst h1 h2
   have h:wpT P ops Q gf k [] a w:=h
   cases k with
   |zero=>exact h.elim
   |succ k=>exact h
  ·obtain ⟨h0,oi,hoi,hall⟩:=mem_ready.1 hi
   have hil:i < ops.size:=(Array.getElem?_eq_some_iff.1 hoi).1
   have hdep:∀y,(b.getD i 0).testBit y=true→y < ops.size→listed.getD y false=true:=fun y hy hys=>by
    obtain ⟨e,he,hb,h1⟩:=M.dep i oi hoi y hy hys
    have h2:=hall e he hb
    rcases h1 with rfl|h1
    ·exact h2
    ·have:=M.back i oi hoi e he hb
     exact hcl e.on y h2 (by omega) h1 hys
   have hcl':∀x y,(listed.setIfInBounds i true).getD x false=true→x < ops.size→(b.getD x 0).testBit y=true→y < ops.size→(listed.setIfInBounds i true).getD y false=true:=fun x y hx hxs hy hys=>by
    by_cases hxi:i=x
    ·subst hxi;exact getD_set_true (hdep y hy hys)
    ·rw [getD_set_ne false hxi] at hx
     exact getD_set_true (hcl x y hx hxs hy hys)
   have hsz':(listed.setIfInBounds i true).size=ops.size:=by simp [hsz]
   have hset:∀x,x < ops.size→((listed.setIfInBounds i true).getD x true=false↔listed.getD x true=false∧x≠i):=fun x hx=>by
    by_cases hxi:i=x
    ·subst hxi
     have:i < listed.size:=by omega
     simp [this]
    ·rw [getD_set_ne true hxi]
     exact ⟨fun h=>⟨h,fun e=>hxi e.symm⟩,fun h=>h.1⟩
   rcases (hun i hil).1 h0 with hm|hm
   ·
    obtain ⟨pre,post,rfl⟩:=List.append_of_mem hm
    have hpw':=hpw
    rw [List.pairwise_append] at hpw'
    have hlt:∀j∈pre,j < i:=fun j hj=>hpw'.2.2 j hj i (by simp)
    have hap:∀j∈pre,∀oj,ops[j]? =some oj→oj.apart ops oi=true:=fun j hj oj hoj=>by
     rcases M.heads i j oi oj (hhs i hm).1 (hhs j (by simp [hj])).1 (hlt j hj) hoi hoj with ⟨e,he,hb,rfl⟩|h1
     ·have h2:=hall e he hb
      have h3:=(hun e.on (Array.getElem?_eq_some_iff.1 hoj).1).2 (.inl (by simp [hj]))
      rw [getD_both h3] at h2
      cases h2
     ·exact h1
    obtain ⟨v,hy,hr⟩:=He.front M.sel hoi post pre a hap h
    have hK:wpAny P .any ops Q fuel (listed.setIfInBounds i true) (a.put oi.dst v) w:=by
     have hsub:(pre++post).Sublist (pre++i::post):=List.Sublist.append_left (List.sublist_cons_self _ _) _
     have hni:i∉pre++post++ts:=by
      intro hx
      rcases List.mem_append.1 hx with h1|h1
      ·rcases List.mem_append.1 h1 with h1|h1
       ·have:=hlt i h1;omega
       ·have h2:=hpw'.2.1
        rw [List.pairwise_cons] at h2
        have:=h2.1 i h1
        omega
      ·have h2:=(hhs i hm).1
       rw [(hts i h1).1] at h2
       cases h2
     refine ih _ (pre++post) ts k _ w hsz' (by simp at hf ⊢;omega) (hpw.sublist hsub) hpt (fun x hx=>?_) (fun x hx=>hhs x (by rcases List.mem_append.1 hx with h1|h1<;>simp [h1])) hts hcl' hr
     rw [hset x hx,hun x hx]
     constructor
     ·rintro ⟨h1|h1,h2⟩
      ·left
       rcases List.mem_append.1 h1 with h3|h3
       ·simp [h3]
       ·rcases List.mem_cons.1 h3 with h4|h4
        ·exact (h2 h4).elim
        ·simp [h4]
      ·exact .inr h1
     ·intro h1
      refine ⟨h1.imp (fun h2=>by rcases List.mem_append.1 h2 with h3|h3<;>simp [h3]) id,fun e=>?_⟩
      subst e
      exact hni (List.mem_append.2 h1)
    unfold wpOp
    simp only [hoi]
    rcases hy with ⟨hw,hv⟩|⟨hw,rfl⟩
    ·rw [if_pos hw]
     refine .inl ?_
     unfold Oper.wp
     rw [hv w (Chg.refl _ _)]
     exact hK
    ·rw [if_neg (by rw [hw];simp)]
     exact hK
   ·
    obtain ⟨hni,_⟩:=hts i hm
    have hrd:i∈rdyT ops ts:=List.mem_filter.2 ⟨hm,by
     rw [hoi]
     refine List.all_eq_true.2 fun e he=>?_
     cases hb:Region.binds .any e with
     |false=>rfl
     |true=>
      have h1:=hall e (Array.mem_toList_iff.1 he) hb
      have h2:e.on∉ts:=fun hx=>by
       have h3:=(hun e.on (hts _ hx).2).2 (.inr hx)
       rw [getD_both h3] at h1
       cases h1
      simpa using h2⟩
    have hni2:i∉hs:=fun h1=>by
     have h2:=(hhs i h1).1
     rw [hni] at h2
     cases h2
    have hmem:∀x,x∈ts.filter (fun j=> !Nat.beq j i)↔x∈ts∧x≠i:=fun x=>by
     rw [List.mem_filter]
     refine and_congr_right fun _=>?_
     cases hb:Nat.beq x i with
     |true=>simp [Nat.eq_of_beq_eq_true hb]
     |false=>simp [Nat.ne_of_beq_eq_false hb]
    have hlen:(ts.filter fun j=> !Nat.beq j i).length < ts.length:=List.length_filter_lt_length_iff_exists.2 ⟨i,hm,by simp⟩
    have next:∀a1 w1,He P ops w1 (fun a'=>wpT P ops Q gf (k - 1) (ts.filter fun j=> !Nat.beq j i) a' w1) hs a1→wpAny P .any ops Q fuel (listed.setIfInBounds i true) a1 w1:=fun a1 w1 hh=>by
     refine ih _ hs (ts.filter fun j=> !Nat.beq j i) (k - 1) a1 w1 hsz' (by omega) hpw (hpt.filter _) (fun x hx=>?_) hhs (fun x hx=>hts x ((hmem x).1 hx).1) hcl' hh
     rw [hset x hx,hun x hx,hmem x]
     constructor
     ·rintro ⟨h1|h1,h2⟩
      ·exact .inl h1
      ·exact .inr ⟨h1,h2⟩
     ·rintro (h1|h1)
      ·exact ⟨.inl h1,fun e=>hni2 (e▸h1)⟩
      ·exact ⟨.inr h1.1,h1.2⟩
    have h1:He P ops w (fun a'=>wpOp P ops Q i (fun a1 w1=>(gf i=true→CD a' w a1 w1)∧wpT P ops Q gf (k - 1) (ts.filter fun j=> !Nat.beq j i) a1 w1) a' w) hs a:=He.mono (fun a' h2=>by
     cases k with
     |zero=>exact h2.elim
     |succ k=>
      cases ts with
      |nil=>cases hm
      |cons t0 ts0=>exact h2 i hrd) _ _ h
    cases hs with
    |nil=>
     have h1':wpOp P ops Q i (fun a1 w1=>(gf i=true→CD a w a1 w1)∧wpT P ops Q gf (k - 1) (ts.filter fun j=> !Nat.beq j i) a1 w1) a w:=h1
     exact wpOp_mono (fun a1 w1 h2=>next a1 w1 h2.2) h1'
    |cons j0 hs0=>
     have hA:∀j∈j0::hs0,∀oj,ops[j]? =some oj→(aOp oi.op=true∨pOp oj.op=true∨gf i=true)∧oj.apart ops oi=true:=fun j hj oj hoj=>by
      have hjn:=hhs j hj
      rcases M.tails i j oi oj hni hjn.1 hoi hoj with h1|h1
      ·have hjs:j < ops.size:=hjn.2
       have h2:=hdep j h1 hjs
       have h3:=(hun j hjs).2 (.inl hj)
       rw [getD_both h3] at h2
       cases h2
      ·exact h1
     cases hAi:aOp oi.op with
     |true=>
      have h2:=He.alloc M.sel hP hoi (wpT P ops Q gf (k - 1) (ts.filter fun j=> !Nat.beq j i)) (j0::hs0) a (fun j hj oj hoj=>(hA j hj oj hoj).2) (He.mono (fun a' h2=>wpOp_aOp hP hoi hAi (wpOp_mono (fun a1 w1 h3=>h3.2) h2)) _ _ h1)
      exact wpOp_mono (fun a1 w1 h3=>next a1 w1 h3.2) h2
     |false=>
      cases hGi:gf i with
      |true=>
       have h2:=He.alloc M.sel hP hoi (wpT P ops Q gf (k - 1) (ts.filter fun j=> !Nat.beq j i)) (j0::hs0) a (fun j hj oj hoj=>(hA j hj oj hoj).2) (He.mono (fun a' h2=>wpOp_mono (fun a1 w1 h3=>⟨h3.1 hGi,h3.2⟩) h2) _ _ h1)
       exact wpOp_mono (fun a1 w1 h3=>next a1 w1 h3.2) h2
      |false=>
       have h2:=He.tail M.sel hP hoi (wpT P ops Q gf (k - 1) (ts.filter fun j=> !Nat.beq j i)) (j0::hs0) a (fun j hj oj hoj=>⟨((hA j hj oj hoj).1.resolve_left (by rw [hAi];simp)).resolve_right (by rw [hGi];simp),(hA j hj oj hoj).2⟩) (He.mono (fun a' h2=>wpOp_mono (fun a1 w1 h3=>h3.2) h2) _ _ h1)
       exact wpOp_mono (fun a1 w1 h3=>next a1 w1 h3) h2
end
def fnl (l:List Nat) (k:List Nat→Prop):Prop:=match l with
 | []=>k []
 | [a]=>k [a]
 | [a,b]=>k [a,b]
 | [a,b,c]=>k [a,b,c]
 | [a,b,c,d]=>k [a,b,c,d]
 | [a,b,c,d,e]=>k [a,b,c,d,e]
 | [a,b,c,d,e,f]=>k [a,b,c,d,e,f]
 | [a,b,c,d,e,f,g]=>k [a,b,c,d,e,f,g]
 | [a,b,c,d,e,f,g,h]=>k [a,b,c,d,e,f,g,h]
 |l=>k l
theorem fnl_eq (l:List Nat) (k:List Nat→Prop):fnl l k=k l:=by unfold fnl;split<;>rfl
def xtF (T:Tb) (P:Program) (n:Nat) (ops:Array Oper) (gf:Nat→Bool) (K:Env→World→Prop) (ih:List Nat→Env→World→Prop) (ts:List Nat) (e:Env) (w:World):Prop:=
 match ts with
 | []=>K e w
 |t0::r=>conjL (fun i=>match ops[i]? with
  |some o=>bif gf i then xo T P (ev n e) o w fun v w'=>Cn (Chg N0 w w') (fcv v fun v=>fnl ((t0::r).filter fun j=> !Nat.beq j i) fun ts'=>ih ts' (eup e o.dst v) w')
   else xl0 T P n ops (fun e' w'=>fnl ((t0::r).filter fun j=> !Nat.beq j i) fun ts'=>ih ts' e' w') [o] e w
  |none=>False) (rdyT ops (t0::r))
def xt (T:Tb) (P:Program) (n:Nat) (ops:Array Oper) (gf:Nat→Bool) (K:Env→World→Prop) (fuel:Nat):List Nat→Env→World→Prop:=
 Nat.rec (motive:=fun _=>List Nat→Env→World→Prop) (fun _ _ _=>False) (fun _ ih=>xtF T P n ops gf K ih) fuel
theorem xt_sound {P:Program} {T:Tb} (hT:TabOk P T) {n:Nat} {ops:Array Oper} {gf:Nat→Bool} {K:Env→World→Prop} {Q:Exit→Act→World→Prop} (hgf:∀i,gf i=true→gAt ops i=true) (hQ:∀e a w,Rel n e a→K e w→Q .normal a w):
  ∀(fuel:Nat) (ts:List Nat) (e:Env) (a:Act) (w:World),Rel n e a→xt T P n ops gf K fuel ts e w→wpT P ops Q gf fuel ts a w
 |0,_,_,_,_,_,h=>h.elim
 |_+1, [],e,a,w,hr,h=>hQ e a w hr h
 |fuel+1,t0::r,e,a,w,hr,h=>by
  have ih:=fun ts e a w=>xt_sound hT hgf hQ fuel ts e a w
  intro i hi
  have h1:=conjL_all (show conjL _ (rdyT ops (t0::r)) from h) i hi
  unfold wpOp
  cases ho:ops[i]? with
  |none=>rw [ho] at h1;exact h1.elim
  |some o=>
   rw [ho] at h1
   simp only at h1 ⊢
   cases hg:gf i with
   |true=>
    rw [hg] at h1
    simp only [cond_true] at h1
    have hgn:o.guard=none:=by
     have:=hgf i hg
     unfold gAt at this
     rw [ho] at this
     simp only [Bool.and_eq_true,Option.isNone_iff_eq_none] at this
     exact this.2
    rw [if_pos (by simp [Region.wanted,hgn])]
    exact .inl (gen_wp hr (xo_sound hT h1) fun v w' hx=>⟨fun _=>⟨hx.1,put_defers _ _ _⟩,ih _ _ _ _ (hr.put _ _) (by have h2:=hx.2;rw [fcv_eq,fnl_eq] at h2;exact h2)⟩)
   |false=>
    rw [hg] at h1
    simp only [cond_false] at h1
    exact xl_one hT (fun e1 a1 w1 hr1 hx1=>⟨fun hh=>(by cases hh),ih _ _ _ _ hr1 (by rw [fnl_eq] at hx1;exact hx1)⟩) hr h1
def lastG (ops:Array Oper):Nat:=(List.range ops.size).foldl (fun m i=>bif gAt ops i then i else m) 0
def gBut (ops:Array Oper) (i:Nat):Bool:=gAt ops i && !Nat.beq i (lastG ops)
theorem gBut_at {ops:Array Oper} (i:Nat) (h:gBut ops i=true):gAt ops i=true:=by
 unfold gBut at h
 simp only [Bool.and_eq_true] at h
 exact h.1
def tlix (l:List Oper):List Nat:=(List.range l.length).filter fun i=> !isHead (heads l 0 []) i
theorem dr_autot {P:Program} {T:Tb} (hT:TabOk P T) {n:Nat} {id:Nat} {l:List Oper} {K:Exit→Env→World→Prop} {e:Env} {w:World} (hm:P.follows .mixedOrders=true) (hB:mixTB l.toArray (isHead (heads l 0 [])) (gBut l.toArray)=true)
  (h:xrs T P n l.toArray w.drew (fun _ e'=>fnl (tlix l) fun ts=>xt T P n l.toArray (gBut l.toArray) (fun e w=>K .normal e w) (l.length+1) ts e' w.drew) l 0 [] [] e):Dr P n (.region id l.toArray true) K e w:=by
 refine dr_of fun rr a hfl hr=>?_
 have M:=mixT_of hB
 generalize hp:isHead (heads l 0 [])=p at M
 refine Code.wpIn_mono (Q:=QX n (fun ex e w=>match ex with| .panic _=>False| .outgrown=>False|ex=>K ex e w)) ?_ ?_
 ·rintro ex a' w' ⟨e',hr',hk⟩
  cases ex<;>first
   |exact ⟨e',hr',hk⟩
   |exact hk.elim
 have hin:∀q:Nat→Bool,∀i∈(List.range l.length).filter q,q i=true∧i < l.length:=fun q i hi=>by
  have:=List.mem_filter.1 hi
  exact ⟨this.2,List.mem_range.1 this.1⟩
 have hlen:∀l:List Nat,(l.filter p).length+(l.filter fun i=> !p i).length=l.length:=fun l=>by
  induction l with
  |nil=>rfl
  |cons x r ih=>cases hx:p x<;>simp [hx]<;>omega
 refine region_in hfl (fun _ _ ⟨_,_,h⟩=>h) hm (mix_anyT M (fun c a w ⟨e,_,hk⟩=>hk) _ _ ((List.range l.length).filter p) ((List.range l.length).filter fun i=> !p i) (l.length+1) a _ (by simp) (by have:=hlen (List.range l.length);simp at this ⊢;omega)
  (List.pairwise_lt_range.sublist List.filter_sublist) ((List.nodup_range).sublist List.filter_sublist) (fun i hi=>?_) (fun i hi=>by simpa using hin p i hi) (fun i hi=>by simpa using hin (fun i=> !p i) i hi) (fun x y hx=>?_) ?_)
 ·have hi':i < l.length:=by simpa using hi
  constructor
  ·intro _
   cases hp:p i with
   |true=>exact .inl (List.mem_filter.2 ⟨List.mem_range.2 hi',hp⟩)
   |false=>exact .inr (List.mem_filter.2 ⟨List.mem_range.2 hi',by simp [hp]⟩)
  ·intro _
   simp [hi']
 ·rw [getD_replicate_false] at hx;cases hx
 ·have e1:=hix_at l 0 [] [] rfl
  simp only [List.nil_append,←List.range_eq_range'] at e1
  rw [←hp,e1]
  refine xrs_sound hT (sel false (heads l 0 []) l) (fun e a hr h=>?_) l 0 [] [] e a (fun j hj=>by simp) rfl hr h
  rw [fnl_eq] at h
  exact xt_sound hT (K:=fun e w=>K .normal e w) (fun i hi=>gBut_at i hi) (fun e a w hr hk=>⟨e,hr,hk⟩) _ _ _ _ _ hr h
def star (rs:List Res):Res where
 dom b:=∃r∈rs,r.dom b
 ok w:=(∀r∈rs,r.ok w)∧rs.Pairwise (fun (r r':Res)=>∀(b:Nat),r.dom b→¬r'.dom b)
 lt w h b hb:=by
  obtain ⟨r,hr,hb⟩:=hb
  exact r.lt w (h.1 r hr) b hb
 loc w w' h hk:=⟨fun r hr=>r.loc w w' (fun b hb=>h b ⟨r,hr,hb⟩) (hk.1 r hr),hk.2⟩
theorem star_dom {b:Nat} {rs:List Res}:(star rs).dom b↔∃r∈rs,r.dom b:=Iff.rfl
theorem star_ok {w:World} {rs:List Res}:(star rs).ok w↔(∀r∈rs,r.ok w)∧rs.Pairwise (fun (r r':Res)=>∀(b:Nat),r.dom b→¬r'.dom b):=Iff.rfl
structure Mut (r r':Res) (w w':World):Prop where
 chg:Chg r.dom w w'
 ok:r'.ok w'
 dom:∀b,r'.dom b→r.dom b∨w.heap.size≤b
structure Made (r:Res) (w w':World):Prop where
 chg:Chg N0 w w'
 ok:r.ok w'
 dom:∀b,r.dom b→w.heap.size≤b
section
variable {S : Nat → Prop} {w0 w w' : World} {rs rs' rs'' : List Res} {r r' : Res} {j : Nat}
theorem Hp.open (h:(star rs).ok w):Hp (star rs).dom w w rs:=⟨Chg.refl _ _,h.1,h.2,fun r hr _ hb=>.inl ⟨r,hr,hb⟩⟩
theorem Hp.shut (h:Hp (star rs).dom w w' rs') (hs:rs''.Sublist rs'):Mut (star rs) (star rs'') w w':=by
 have h:=h.sub hs
 exact ⟨h.chg,⟨h.ok,h.sep⟩,fun _ ⟨r,hr,hb⟩=>h.own r hr _ hb⟩
theorem Hp.shut1 (h:Hp r.dom w w' rs') (hj:rs'[j]? =some r'):Mut r r' w w':=⟨h.chg,h.get hj,fun b hb=>h.own r' (List.mem_of_getElem? hj) b hb⟩
theorem Hp.via (h:Hp S w0 w rs) (hj:rs[j]? =some r) (m:Mut r r' w w'):Hp S w0 w' (rs.set j r'):=h.mut hj m.chg m.ok m.dom
theorem Hp.made (h:Hp N0 w w' rs') (hs:rs''.Sublist rs'):Made (star rs'') w w':=by
 have h:=h.sub hs
 exact ⟨h.chg,⟨h.ok,h.sep⟩,fun _ ⟨r,hr,hb⟩=>(h.own r hr _ hb).resolve_left fun h=>h⟩
theorem Hp.made1 (h:Hp N0 w w' rs') (hj:rs'[j]? =some r'):Made r' w w':=⟨h.chg,h.get hj,fun b hb=>(h.own r' (List.mem_of_getElem? hj) b hb).resolve_left fun h=>h⟩
theorem Hp.add (h:Hp S w0 w rs) (m:Made r w w'):Hp S w0 w' (r::rs):=h.new m.chg m.ok m.dom
theorem Hp.perm (h:Hp S w0 w rs) (hs:rs.Perm rs'):Hp S w0 w rs':=
 ⟨h.chg,fun r hr=>h.ok r (hs.mem_iff.2 hr),h.sep.perm hs fun hxy b hb hb'=>hxy b hb' hb,fun r hr=>h.own r (hs.mem_iff.2 hr)⟩
theorem Hp.unfold (h:Hp S w0 w (star rs'::rs)):Hp S w0 w (rs'++rs):=by
 have h1:=h.ok _ (List.mem_cons_self ..)
 have h2:=List.pairwise_cons.1 h.sep
 refine ⟨h.chg,fun r hr=>?_,List.pairwise_append.2 ⟨h1.2,h2.2,fun r hr r' hr' b hb=>h2.1 r' hr' b ⟨r,hr,hb⟩⟩,fun r hr b hb=>?_⟩
 ·rcases List.mem_append.1 hr with hr|hr
  ·exact h1.1 r hr
  ·exact h.ok r (List.mem_cons_of_mem _ hr)
 ·rcases List.mem_append.1 hr with hr|hr
  ·exact h.own _ (List.mem_cons_self ..) b ⟨r,hr,hb⟩
  ·exact h.own r (List.mem_cons_of_mem _ hr) b hb
theorem Hp.fold (n:Nat) (h:Hp S w0 w rs):Hp S w0 w (star (rs.take n)::rs.drop n):=by
 have h0:=List.take_append_drop n rs
 have h1:=List.pairwise_append.1 (h0.symm▸h.sep)
 refine ⟨h.chg,fun r hr=>?_,List.pairwise_cons.2 ⟨fun r' hr' b hb=>?_,h1.2.1⟩,fun r hr b hb=>?_⟩
 ·rcases List.mem_cons.1 hr with rfl|hr
  ·exact ⟨fun r hr=>h.ok r (List.mem_of_mem_take hr),h1.1⟩
  ·exact h.ok r (List.mem_of_mem_drop hr)
 ·obtain ⟨r,hr,hb⟩:=hb
  exact h1.2.2 r hr r' hr' b hb
 ·rcases List.mem_cons.1 hr with rfl|hr
  ·obtain ⟨r,hr,hb⟩:=hb
   exact h.own r (List.mem_of_mem_take hr) b hb
  ·exact h.own r (List.mem_of_mem_drop hr) b hb
theorem Mut.of0 (h:r.ok w) (hc:Chg N0 w w'):Mut r r w w':=⟨hc.of0,r.keep0 h hc,fun _ hb=>.inl hb⟩
end
def holds:List (Nat×Value)→Env→Prop
 | [],_=>True
 |(d,v)::r,e=>e.f d=v∧holds r e
theorem eat_holds {e:Env} {l:List (Nat×Value)} (h:holds l e):e=eat l e:=by
 refine eat_of l e ?_
 induction l with
 |nil=>simp
 |cons p r ih=>
  obtain ⟨h1,h2⟩:=h
  intro x hx
  rcases List.mem_cons.1 hx with rfl|hx
  ·exact h1
  ·exact ih h2 x hx
def Inv {α:Type} (ds:List Nat) (vals:α→List (Nat×Value)) (I:α→World→Prop) (m:α→Nat) (e:Env) (w:World) (n:Nat):Prop:=∃a f0,e=eat (vals a) ⟨f0,ds⟩∧n=m a∧I a w
theorem lp_invD (ds:List Nat) {body:Env→World→(Env→World→Prop)→Prop} {e:Env} {w:World} {α:Type} (vals:α→List (Nat×Value)) (I:α→World→Prop) (m:α→Nat) (a0:α)
  (h0:holds (vals a0) e) (hI:I a0 w) (h:∀a f0 w,I a w→body (eat (vals a) ⟨f0,ds⟩) w fun e' w'=>∃n,n < m a∧Inv ds vals I m e' w' n) (hd:e.ds=ds:=by rfl):Lp body e w:=by
 subst hd
 refine lp_of (Inv e.ds vals I m) ⟨m a0,a0,e.f,eat_holds h0,rfl,hI⟩ ?_
 rintro e' w n ⟨a,f0,rfl,rfl,hI⟩
 exact h a f0 w hI
theorem lp_inv {body:Env→World→(Env→World→Prop)→Prop} {e:Env} {w:World} {α:Type} (vals:α→List (Nat×Value)) (I:α→World→Prop) (m:α→Nat) (a0:α)
  (h0:holds (vals a0) e) (hI:I a0 w) (h:∀a f0 w,I a w→body (eat (vals a) ⟨f0, []⟩) w fun e' w'=>∃n,n < m a∧Inv [] vals I m e' w' n) (hd:e.ds= []:=by rfl):Lp body e w:=lp_invD [] vals I m a0 h0 hI h hd
theorem lp_next {e:Env} {w:World} {α:Type} {ds:List Nat} {vals:α→List (Nat×Value)} {I:α→World→Prop} {m:α→Nat} {n:Nat} (a:α) (hm:m a < n) (h:holds (vals a) e) (hI:I a w) (hd:e.ds=ds:=by rfl):∃n',n' < n∧Inv ds vals I m e w n':=by
 subst hd
 exact ⟨m a,hm,a,e.f,eat_holds h,rfl,hI⟩
theorem ar_is {k:IntKind} {s:Int} {f:Int→Prop} (r:Int) (hr:k.wrap s=r) (h:f r):Ar k s f:=⟨_,hr,h⟩
theorem ar_u32add {f:Int→Prop} (x y:UInt32) (h:f ((x+y).toNat:Int)):Ar .u32 (x.toNat+y.toNat) f:=by
 refine ⟨_,?_,h⟩
 simp [IntKind.wrap,IntKind.bits,IntKind.signed,UInt32.toNat_add]
attribute [irreducible] star Inv
end Go.Proofs.YtpbapnlnheahnaaGreatDoor
