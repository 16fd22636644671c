/- MImprintBytes15: parts of the proof of ImprintBytes: TailS, Range. No condition of their own. -/
import Derived.Test.YtpbapnlnheahnaaGreatDoorMImprintBytes4
import Derived.Test.YtpbapnlnheahnaaGreatDoorMImprintBytessSlice
import Derived.Maps.RangeRun
set_option linter.unusedSimpArgs false
set_option linter.unusedVariables false
namespace Go.Proofs.YtpbapnlnheahnaaGreatDoor
open Go.RowKit
theorem apart_symm {ops:Array Oper} {x y:Oper} (h:x.apart ops y=true):y.apart ops x=true:=by
 unfold Oper.apart at h ⊢
 cases hx:x.dst<;>cases hy:y.dst<;>simp_all
 exact fun e=>h.1.2 e.symm
def gp (ops:Array Oper) (ex:List Nat) (i:Nat):Bool:=match ops[i]? with
 |some o=>isRd o.op && !ex.elem i
 |none=>false
def gsel (ops:Array Oper) (ex:List Nat):List Nat→List Nat→List Nat
 | [],_=> []
 |i::r,pend=>match ops[i]? with
  |some o=>bif isRd o.op && !ex.elem i && indep o pend then i::gsel ops ex r pend else gsel ops ex r (i::pend)
  |none=>gsel ops ex r (i::pend)
def grest (ops:Array Oper) (ex:List Nat):List Nat→List Nat→List Nat
 | [],_=> []
 |i::r,pend=>match ops[i]? with
  |some o=>bif isRd o.op && !ex.elem i && indep o pend then grest ops ex r pend else i::grest ops ex r (i::pend)
  |none=>i::grest ops ex r (i::pend)
theorem indep_all {o:Oper}:∀{ts:List Nat},indep o ts=true→∀e∈o.after,Region.binds .any e=true→e.on∉ts
 | [],_,_,_,_=>by simp
 |j::r,h,e,he,hb=>by
  unfold indep at h
  rw [Bool.and_eq_true,List.all_eq_true] at h
  have h1:=h.1 e (Array.mem_toList_iff.2 he)
  rw [hb] at h1
  intro hm
  rcases List.mem_cons.1 hm with hm|hm
  ·rw [hm] at h1;simp at h1
  ·exact indep_all h.2 e he hb hm
theorem indep_not {o:Oper}:∀{ts:List Nat},indep o ts=false→∃e∈o.after,Region.binds .any e=true∧e.on∈ts
 | [],h=>by simp [indep] at h
 |j::r,h=>by
  unfold indep at h
  rw [Bool.and_eq_false_iff] at h
  rcases h with h|h
  ·rw [List.all_eq_false] at h
   obtain ⟨e,he,h1⟩:=h
   refine ⟨e,Array.mem_toList_iff.1 he,?_⟩
   cases hb:Region.binds .any e with
   |false=>rw [hb] at h1;simp at h1
   |true=>
    rw [hb] at h1
    simp only [Bool.not_true,Bool.false_or,Bool.not_eq_true',Bool.not_eq_false] at h1
    refine ⟨rfl,?_⟩
    have h2:e.on=j:=by simpa using h1
    simp [h2]
  ·obtain ⟨e,he,h1,h2⟩:=indep_not h
   exact ⟨e,he,h1,by simp [h2]⟩
section
variable {ops : Array Oper} {ex : List Nat}
theorem gsel_sub:∀(l pend:List Nat),(gsel ops ex l pend).Sublist l∧(grest ops ex l pend).Sublist l∧∀x,x∈l→x∈gsel ops ex l pend∨x∈grest ops ex l pend
 | [],_=>⟨List.Sublist.refl _,List.Sublist.refl _,fun x hx=>by simp at hx⟩
 |i::r,pend=>by
  unfold gsel grest
  cases ho:ops[i]? with
  |none=>
   obtain ⟨h1,h2,h3⟩:=gsel_sub r (i::pend)
   refine ⟨h1.cons _,h2.cons_cons _,fun x hx=>?_⟩
   rcases List.mem_cons.1 hx with rfl|hx
   ·right;simp
   ·rcases h3 x hx with h|h
    ·exact .inl h
    ·right;simp [h]
  |some o=>
   simp only
   cases hb:(isRd o.op && !ex.elem i && indep o pend) with
   |true=>
    obtain ⟨h1,h2,h3⟩:=gsel_sub r pend
    simp only [cond_true]
    refine ⟨h1.cons_cons _,h2.cons _,fun x hx=>?_⟩
    rcases List.mem_cons.1 hx with rfl|hx
    ·left;simp
    ·rcases h3 x hx with h|h
     ·left;simp [h]
     ·exact .inr h
   |false=>
    obtain ⟨h1,h2,h3⟩:=gsel_sub r (i::pend)
    simp only [cond_false]
    refine ⟨h1.cons _,h2.cons_cons _,fun x hx=>?_⟩
    rcases List.mem_cons.1 hx with rfl|hx
    ·right;simp
    ·rcases h3 x hx with h|h
     ·exact .inl h
     ·right;simp [h]
theorem gsel_disj:∀(l pend:List Nat),l.Nodup→∀x,x∈gsel ops ex l pend→x∉grest ops ex l pend
 | [],_,_,x,hx=>by simp [gsel] at hx
 |i::r,pend,hn,x,hx=>by
  rw [List.nodup_cons] at hn
  unfold gsel at hx
  unfold grest
  cases ho:ops[i]? with
  |none=>
   rw [ho] at hx
   simp only at hx ⊢
   intro h
   rcases List.mem_cons.1 h with rfl|h
   ·exact hn.1 ((gsel_sub r _).1.subset hx)
   ·exact gsel_disj r _ hn.2 x hx h
  |some o=>
   rw [ho] at hx
   simp only at hx ⊢
   cases hb:(isRd o.op && !ex.elem i && indep o pend) with
   |true=>
    rw [hb] at hx
    simp only [cond_true] at hx ⊢
    rcases List.mem_cons.1 hx with rfl|hx
    ·exact fun h=>hn.1 ((gsel_sub r _).2.1.subset h)
    ·exact gsel_disj r _ hn.2 x hx
   |false=>
    rw [hb] at hx
    simp only [cond_false] at hx ⊢
    intro h
    rcases List.mem_cons.1 h with rfl|h
    ·exact hn.1 ((gsel_sub r _).1.subset hx)
    ·exact gsel_disj r _ hn.2 x hx h
theorem gsel_spec:∀(l pend:List Nat),l.Pairwise (· < ·)→∀x∈gsel ops ex l pend,gp ops ex x=true∧∀o,ops[x]? =some o→∀e∈o.after,Region.binds .any e=true→e.on∉pend∧(e.on < x→e.on∉grest ops ex l pend)
 | [],_,_,x,hx=>by simp [gsel] at hx
 |i::r,pend,hs,x,hx=>by
  rw [List.pairwise_cons] at hs
  unfold gsel at hx
  cases ho:ops[i]? with
  |none=>
   rw [ho] at hx
   simp only at hx
   have ih:=gsel_spec r (i::pend) hs.2 x hx
   refine ⟨ih.1,fun o h1 e he hb=>?_⟩
   obtain ⟨h2,h3⟩:=ih.2 o h1 e he hb
   refine ⟨fun h=>h2 (by simp [h]),fun hlt h=>?_⟩
   unfold grest at h
   rw [ho] at h
   simp only at h
   rcases List.mem_cons.1 h with h|h
   ·exact h2 (by simp [h])
   ·exact h3 hlt h
  |some o'=>
   rw [ho] at hx
   simp only at hx
   cases hb':(isRd o'.op && !ex.elem i && indep o' pend) with
   |true=>
    rw [hb'] at hx
    simp only [cond_true] at hx
    have hg:grest ops ex (i::r) pend=grest ops ex r pend:=by
     conv=>lhs;unfold grest
     rw [ho]
     simp only [hb',cond_true]
    rw [hg]
    rcases List.mem_cons.1 hx with rfl|hx
    ·simp only [Bool.and_eq_true] at hb'
     refine ⟨by unfold gp;rw [ho];simp only [Bool.and_eq_true];exact hb'.1,fun o h1 e he hb=>?_⟩
     rw [ho] at h1
     cases h1
     refine ⟨indep_all hb'.2 e he hb,fun hlt h=>?_⟩
     have:=hs.1 _ ((gsel_sub r pend).2.1.subset h)
     omega
    ·exact gsel_spec r pend hs.2 x hx
   |false=>
    rw [hb'] at hx
    simp only [cond_false] at hx
    have hg:grest ops ex (i::r) pend=i::grest ops ex r (i::pend):=by
     conv=>lhs;unfold grest
     rw [ho]
     simp only [hb',cond_false]
    rw [hg]
    have ih:=gsel_spec r (i::pend) hs.2 x hx
    refine ⟨ih.1,fun o h1 e he hb=>?_⟩
    obtain ⟨h2,h3⟩:=ih.2 o h1 e he hb
    refine ⟨fun h=>h2 (by simp [h]),fun hlt h=>?_⟩
    rcases List.mem_cons.1 h with h|h
    ·exact h2 (by simp [h])
    ·exact h3 hlt h
theorem grest_spec:∀(l pend:List Nat),∀x∈grest ops ex l pend,gp ops ex x=true→∃o,ops[x]? =some o∧∃e∈o.after,Region.binds .any e=true∧(e.on∈pend∨e.on∈grest ops ex l pend)
 | [],_,x,hx,_=>by simp [grest] at hx
 |i::r,pend,x,hx,hp=>by
  cases ho:ops[i]? with
  |none=>
   have hg:grest ops ex (i::r) pend=i::grest ops ex r (i::pend):=by
    conv=>lhs;unfold grest
    rw [ho]
   rw [hg] at hx ⊢
   rcases List.mem_cons.1 hx with rfl|hx
   ·unfold gp at hp
    rw [ho] at hp
    cases hp
   ·obtain ⟨o,h1,e,he,hb,h2⟩:=grest_spec r (i::pend) x hx hp
    refine ⟨o,h1,e,he,hb,?_⟩
    rcases h2 with h2|h2
    ·rcases List.mem_cons.1 h2 with h3|h3
     ·right;simp [h3]
     ·exact .inl h3
    ·right;simp [h2]
  |some o'=>
   cases hb':(isRd o'.op && !ex.elem i && indep o' pend) with
   |true=>
    have hg:grest ops ex (i::r) pend=grest ops ex r pend:=by
     conv=>lhs;unfold grest
     rw [ho]
     simp only [hb',cond_true]
    rw [hg] at hx ⊢
    exact grest_spec r pend x hx hp
   |false=>
    have hg:grest ops ex (i::r) pend=i::grest ops ex r (i::pend):=by
     conv=>lhs;unfold grest
     rw [ho]
     simp only [hb',cond_false]
    rw [hg] at hx ⊢
    rcases List.mem_cons.1 hx with rfl|hx
    ·unfold gp at hp
     rw [ho] at hp
     simp only at hp
     rw [hp,Bool.true_and] at hb'
     obtain ⟨e,he,hb,h2⟩:=indep_not hb'
     exact ⟨o',ho,e,he,hb, .inl h2⟩
    ·obtain ⟨o,h1,e,he,hb,h2⟩:=grest_spec r (i::pend) x hx hp
     refine ⟨o,h1,e,he,hb,?_⟩
     rcases h2 with h2|h2
     ·rcases List.mem_cons.1 h2 with h3|h3
      ·right;simp [h3]
      ·exact .inl h3
     ·right;simp [h2]
end
section
variable {P : Program} {ops : Array Oper} {Q : Exit → Act → World → Prop}
def wpN (P:Program) (ops:Array Oper) (Q:Exit→Act→World→Prop) (ex:List Nat) (gf:Nat→Bool):Nat→List Nat→Act→World→Prop
 |0,_,_,_=>False
 |k+1,ts,a,w=>(ts= []→Q .normal a w)∧∀i∈rdyT ops ts,wpOp P ops Q i (fun a1 w1=>(gf i=true→CD a w a1 w1)∧
   He P ops w1 (fun a'=>wpN P ops Q ex gf k (grest ops ex (ts.filter fun j=> !Nat.beq j i) []) a' w1) (gsel ops ex (ts.filter fun j=> !Nat.beq j i) []) a1) a w
def mixSB (ops:Array Oper) (p gf:Nat→Bool):Bool:=
 let b:=Region.before ops
 Region.noSelect ops && depOk ops b &&
 ((List.range ops.size).all fun i=> !p i|| (List.range i).all fun j=> !p j|| match ops[i]?,ops[j]? with
  |some oi,some oj=>oi.after.any (fun e=>Region.binds .any e && e.on==j)|| oj.apart ops oi
  |_,_=>false) &&
 ((List.range ops.size).all fun i=>p i||
  ((List.range ops.size).all fun j=> !p j|| (b.getD i 0).testBit j|| (b.getD j 0).testBit i|| match ops[i]?,ops[j]? with
   |some oi,some oj=>(aOp oi.op|| pOp oj.op|| gf i) && oj.apart ops oi
   |_,_=>false))
structure MixS (ops:Array Oper) (p gf:Nat→Bool) (b:Array Nat):Prop where
 sel:∀(j:Nat) (o:Oper) cs bl,ops[j]? =some o→o.op≠ .select cs bl
 back:∀(i:Nat) o,ops[i]? =some o→∀e∈o.after,Region.binds .any e=true→e.on < i
 dep:∀(i:Nat) o,ops[i]? =some o→∀j,(b.getD i 0).testBit j=true→j < ops.size→∃e∈o.after,Region.binds .any e=true∧(e.on=j∨(b.getD e.on 0).testBit j=true)
 heads:∀i j oi oj,p i=true→p j=true→j < i→ops[i]? =some oi→ops[j]? =some oj→(∃e∈oi.after,Region.binds .any e=true∧e.on=j)∨oj.apart ops oi=true
 tails:∀i j oi oj,p i=false→p j=true→ops[i]? =some oi→ops[j]? =some oj→(b.getD i 0).testBit j=true∨(b.getD j 0).testBit i=true∨((aOp oi.op=true∨pOp oj.op=true∨gf i=true)∧oj.apart ops oi=true)
theorem mixS_of {p gf:Nat→Bool} (h:mixSB ops p gf=true):MixS ops p gf (Region.before ops):=by
 unfold mixSB at h
 simp only [Bool.and_eq_true] at h
 obtain ⟨⟨⟨hsel,hdep⟩,hheads⟩,htails⟩:=h
 have hlt:∀(i:Nat) o,ops[i]? =some o→i < ops.size:=fun i o ho=>(Array.getElem?_eq_some_iff.1 ho).1
 have hd:∀(i:Nat) o,ops[i]? =some o→_:=fun i o ho=>by
  have:=List.all_eq_true.1 hdep i (List.mem_range.2 (hlt i o ho))
  rw [ho] at this
  exact this
 refine ⟨Region.noSelect_spec hsel,fun i o ho e he hb=>?_,fun i o ho j hj hjs=>?_,fun i j oi oj hi hpj hj hoi hoj=>?_,fun i j oi oj hi hj hoi hoj=>?_⟩
 ·have h1:=hd i o ho
  simp only [Bool.and_eq_true] at h1
  have h2:=List.all_eq_true.1 h1.1 e (Array.mem_toList_iff.2 he)
  rw [hb] at h2
  simp only [Bool.not_true,Bool.false_or,Bool.and_eq_true] at h2
  have h3:=h2.1
  rw [Nat.blt_eq] at h3
  exact h3
 ·have h1:=hd i o ho
  simp only [Bool.and_eq_true] at h1
  have h2:=List.all_eq_true.1 h1.2 j (List.mem_range.2 hjs)
  rw [hj] at h2
  simp only [Bool.not_true,Bool.false_or] at h2
  obtain ⟨e,he,h3⟩:=List.any_eq_true.1 h2
  simp only [Bool.and_eq_true,Bool.or_eq_true,beq_iff_eq] at h3
  exact ⟨e,Array.mem_toList_iff.1 he,h3.1,h3.2⟩
 ·have h0:=List.all_eq_true.1 hheads i (List.mem_range.2 (hlt i oi hoi))
  rw [hi,Bool.not_true,Bool.false_or] at h0
  have h1:=List.all_eq_true.1 h0 j (List.mem_range.2 hj)
  rw [hoi,hoj,hpj,Bool.not_true,Bool.false_or] at h1
  simp only [Bool.or_eq_true] at h1
  rcases h1 with h1|h1
  ·obtain ⟨e,he,h2⟩:=Array.any_eq_true'.1 h1
   simp only [Bool.and_eq_true,beq_iff_eq] at h2
   exact .inl ⟨e,he,h2⟩
  ·exact .inr h1
 ·have h1:=List.all_eq_true.1 htails i (List.mem_range.2 (hlt i oi hoi))
  rw [hi,Bool.false_or] at h1
  have h2:=List.all_eq_true.1 h1 j (List.mem_range.2 (hlt j oj hoj))
  rw [hoi,hoj,hj,Bool.not_true,Bool.false_or] at h2
  simp only [Bool.or_eq_true,Bool.and_eq_true] at h2
  rcases h2 with (h2|h2)|⟨h3,h4⟩
  ·exact .inl h2
  ·exact .inr (.inl h2)
  ·refine .inr (.inr ⟨?_,h4⟩)
   rcases h3 with (h3|h3)|h3
   ·exact .inl h3
   ·exact .inr (.inl h3)
   ·exact .inr (.inr h3)
theorem He.app {w:World} {K:Act→Prop}:∀(l m:List Nat) (a:Act),He P ops w (fun a'=>He P ops w K m a') l a→He P ops w K (l++m) a
 | [],_,_,h=>h
 |_::r,m,_,⟨o,v,ho,hy,hr⟩=>⟨o,v,ho,hy,He.app r m _ hr⟩
theorem mix_anyS {ex:List Nat} {gf:Nat→Bool} {b:Array Nat} (M:MixS ops (gp ops ex) gf b) (hP:∀c a w,¬Q (.panic c) a w):∀(fuel:Nat) (listed:Array Bool) (hs ts:List Nat) (k:Nat) (a:Act) (w:World),
  listed.size=ops.size→hs.length+ts.length≤fuel→hs.Nodup→ts.Pairwise (· < ·)→(∀i∈hs,i∉ts)→(∀i,i < ops.size→(listed.getD i true=false↔i∈hs∨i∈ts))→(∀i∈hs,gp ops ex i=true∧i < ops.size)→(∀i∈ts,i < ops.size)→
  (∀i∈ts,gp ops ex i=true→∃o,ops[i]? =some o∧∃e∈o.after,Region.binds .any e=true∧e.on∈ts)→
  (∀x y,listed.getD x false=true→x < ops.size→(b.getD x 0).testBit y=true→y < ops.size→listed.getD y false=true)→
  (hs.Pairwise fun j i=>∀o,ops[j]? =some o→∀e∈o.after,Region.binds .any e=true→e.on≠i)→
  (∀j∈hs,∀o,ops[j]? =some o→∀e∈o.after,Region.binds .any e=true→listed.getD e.on false=true∨e.on∈hs)→
  He P ops w (fun a'=>wpN P ops Q ex gf k ts a' w) hs a→wpAny P .any ops Q fuel listed a w:=by
 intro fuel
 induction fuel with
 |zero=>
  intro listed hs ts k a w hsz hf _ _ _ hun _ _ _ _ _ _ h
  obtain ⟨h1,h2⟩:hs= []∧ts= []:=by
   constructor<;>exact List.eq_nil_of_length_eq_zero (by omega)
  subst h1 h2
  have h:wpN P ops Q ex gf k [] a w:=h
  refine ⟨?_,by cases k with|zero=>exact h.elim|succ k=>exact h.1 rfl⟩
  rw [List.eq_nil_iff_forall_not_mem]
  intro i hi
  obtain ⟨h0,o,ho,_⟩:=mem_ready.1 hi
  have:=(hun i (Array.getElem?_eq_some_iff.1 ho).1).1 h0
  simp at this
 |succ fuel ih=>
  intro listed hs ts k a w hsz hf hnd hpw hdj hun hhs hts hgr hcl hord hdir h
  have htsl:ts.Nodup:=hpw.imp fun h e=>by omega
  refine ⟨fun hr=>?_,fun i hi=>?_⟩
  ·
   have hempty:∀x,x∉hs++ts:=by
    intro x hx
    have key:∀m x,x=m→x∈hs++ts→False:=by
     intro m
     induction m using Nat.strongRecOn with
     |_ m ihm=>
      intro x hxm hx
      have hxl:x < ops.size:=by
       rcases List.mem_append.1 hx with h1|h1
       ·exact (hhs x h1).2
       ·exact hts x h1
      have hxo:ops[x]? =some ops[x]:=Array.getElem?_eq_getElem hxl
      have:x∈Region.ready .any ops listed:=by
       refine mem_ready.2 ⟨(hun x hxl).2 (List.mem_append.1 hx),ops[x],hxo,fun e he hb=>?_⟩
       have hlt:=M.back x _ hxo e he hb
       cases hle:listed.getD e.on false with
       |true=>rfl
       |false=>
        have hel:e.on < ops.size:=by omega
        have hun':listed.getD e.on true=false:=getD_in (by omega) hle
        exact (ihm e.on (by omega) e.on rfl (List.mem_append.2 ((hun e.on hel).1 hun'))).elim
      rw [hr] at this
      cases this
    exact key x x rfl hx
   have h1:hs= []:=List.eq_nil_iff_forall_not_mem.2 fun x hx=>hempty x (List.mem_append.2 (.inl hx))
   have h2:ts= []:=List.eq_nil_iff_forall_not_mem.2 fun x hx=>hempty x (List.mem_append.2 (.inr hx))
   subst h1 h2
   have h:wpN P ops Q ex gf k [] a w:=h
   cases k with
   |zero=>exact h.elim
   |succ k=>exact h.1 rfl
  ·obtain ⟨h0,oi,hoi,hall⟩:=mem_ready.1 hi
   have hil:i < ops.size:=(Array.getElem?_eq_some_iff.1 hoi).1
   have hdep:∀y,(b.getD i 0).testBit y=true→y < ops.size→listed.getD y false=true:=fun y hy hys=>by
    obtain ⟨e,he,hb,h1⟩:=M.dep i oi hoi y hy hys
    have h2:=hall e he hb
    rcases h1 with rfl|h1
    ·exact h2
    ·have:=M.back i oi hoi e he hb
     exact hcl e.on y h2 (by omega) h1 hys
   have hanc:∀m j,j=m→j∈hs→∀y,(b.getD j 0).testBit y=true→y < ops.size→listed.getD y false=true∨y∈hs:=by
    intro m
    induction m using Nat.strongRecOn with
    |_ m ihm=>
     intro j hjm hj y hy hys
     have hjl:=(hhs j hj).2
     have hoj:ops[j]? =some ops[j]:=Array.getElem?_eq_getElem hjl
     obtain ⟨e,he,hb,h1⟩:=M.dep j _ hoj y hy hys
     have hlt:=M.back j _ hoj e he hb
     have hjl:=(hhs j hj).2
     rcases hdir j hj _ hoj e he hb with h2|h2
     ·rcases h1 with rfl|h1
      ·exact .inl h2
      ·exact .inl (hcl e.on y h2 (by omega) h1 hys)
     ·rcases h1 with rfl|h1
      ·exact .inr h2
      ·exact ihm e.on (by omega) e.on rfl h2 y h1 hys
   have hcl':∀x y,(listed.setIfInBounds i true).getD x false=true→x < ops.size→(b.getD x 0).testBit y=true→y < ops.size→(listed.setIfInBounds i true).getD y false=true:=fun x y hx hxs hy hys=>by
    by_cases hxi:i=x
    ·subst hxi;exact getD_set_true (hdep y hy hys)
    ·rw [getD_set_ne false hxi] at hx
     exact getD_set_true (hcl x y hx hxs hy hys)
   have hsz':(listed.setIfInBounds i true).size=ops.size:=by simp [hsz]
   have hii:(listed.setIfInBounds i true).getD i false=true:=by
    have:i < listed.size:=by omega
    simp [this]
   have hset:∀x,x < ops.size→((listed.setIfInBounds i true).getD x true=false↔listed.getD x true=false∧x≠i):=fun x hx=>by
    by_cases hxi:i=x
    ·subst hxi
     have:i < listed.size:=by omega
     simp [this]
    ·rw [getD_set_ne true hxi]
     exact ⟨fun h=>⟨h,fun e=>hxi e.symm⟩,fun h=>h.1⟩
   have notl:∀x,x < ops.size→x∈hs∨x∈ts→listed.getD x false=false:=fun x hx hm=>getD_both ((hun x hx).2 hm)
   rcases (hun i hil).1 h0 with hm|hm
   ·
    obtain ⟨pre,post,rfl⟩:=List.append_of_mem hm
    have hnd':=List.nodup_append.1 hnd
    have hord':=List.pairwise_append.1 hord
    have hap:∀j∈pre,∀oj,ops[j]? =some oj→oj.apart ops oi=true:=fun j hj oj hoj=>by
     have hjl:=(hhs j (by simp [hj])).2
     have hne:j≠i:=fun e=>hnd'.2.2 j hj i (by simp) e
     rcases Nat.lt_or_gt_of_ne hne with hlt|hlt
     ·rcases M.heads i j oi oj (hhs i hm).1 (hhs j (by simp [hj])).1 hlt hoi hoj with ⟨e,he,hb,rfl⟩|h1
      ·have h2:=hall e he hb
       rw [notl e.on hjl (.inl (by simp [hj]))] at h2
       cases h2
      ·exact h1
     ·rcases M.heads j i oj oi (hhs j (by simp [hj])).1 (hhs i hm).1 hlt hoj hoi with ⟨e,he,hb,h2⟩|h1
      ·exact (hord'.2.2 j hj i (by simp) oj hoj e he hb h2).elim
      ·exact apart_symm h1
    obtain ⟨v,hy,hr⟩:=He.front M.sel hoi post pre a hap h
    have hK:wpAny P .any ops Q fuel (listed.setIfInBounds i true) (a.put oi.dst v) w:=by
     have hsub:(pre++post).Sublist (pre++i::post):=List.Sublist.append_left (List.sublist_cons_self _ _) _
     have hin:i∉pre++post:=fun hx=>by
      rcases List.mem_append.1 hx with h1|h1
      ·exact hnd'.2.2 i h1 i (by simp) rfl
      ·have:=(List.nodup_cons.1 hnd'.2.1).1
       exact this h1
     have hmem:∀x,x∈pre++i::post↔x∈pre++post∨x=i:=fun x=>by
      simp only [List.mem_append,List.mem_cons]
      constructor
      ·rintro (h|h|h)
       ·exact .inl (.inl h)
       ·exact .inr h
       ·exact .inl (.inr h)
      ·rintro ((h|h)|h)
       ·exact .inl h
       ·exact .inr (.inr h)
       ·exact .inr (.inl h)
     refine ih _ (pre++post) ts k _ w hsz' (by simp at hf ⊢;omega) (hnd.sublist hsub) hpw (fun x hx=>hdj x (hsub.subset hx)) (fun x hx=>?_) (fun x hx=>hhs x (hsub.subset hx)) hts hgr hcl' (hord.sublist hsub) (fun j hj o ho e he hb=>?_) hr
     ·rw [hset x hx,hun x hx,hmem x]
      constructor
      ·rintro ⟨(h1|h1)|h1,h2⟩
       ·exact .inl h1
       ·exact (h2 h1).elim
       ·exact .inr h1
      ·rintro (h1|h1)
       ·exact ⟨.inl (.inl h1),fun e=>hin (e▸h1)⟩
       ·exact ⟨.inr h1,fun e=>hdj i hm (e▸h1)⟩
     ·rcases hdir j (hsub.subset hj) o ho e he hb with h1|h1
      ·exact .inl (getD_set_true h1)
      ·rcases (hmem e.on).1 h1 with h2|h2
       ·exact .inr h2
       ·left;rw [h2];exact hii
    unfold wpOp
    simp only [hoi]
    rcases hy with ⟨hw,hv⟩|⟨hw,rfl⟩
    ·rw [if_pos hw]
     refine .inl ?_
     unfold Oper.wp
     rw [hv w (Chg.refl _ _)]
     exact hK
    ·rw [if_neg (by rw [hw];simp)]
     exact hK
   ·
    have hni:gp ops ex i=false:=by
     cases hg:gp ops ex i with
     |false=>rfl
     |true=>
      obtain ⟨o,ho,e,he,hb,h1⟩:=hgr i hm hg
      rw [hoi] at ho
      cases ho
      have h2:=hall e he hb
      rw [notl e.on (hts _ h1) (.inr h1)] at h2
      cases h2
    have hrd:i∈rdyT ops ts:=List.mem_filter.2 ⟨hm,by
     rw [hoi]
     refine List.all_eq_true.2 fun e he=>?_
     cases hb:Region.binds .any e with
     |false=>rfl
     |true=>
      have h1:=hall e (Array.mem_toList_iff.1 he) hb
      have h2:e.on∉ts:=fun hx=>by
       rw [notl e.on (hts _ hx) (.inr hx)] at h1
       cases h1
      simpa using h2⟩
    obtain ⟨tr,htr⟩:∃tr,ts.filter (fun j=> !Nat.beq j i)=tr:=⟨_,rfl⟩
    have hmem:∀x,x∈tr↔x∈ts∧x≠i:=fun x=>by
     rw [←htr,List.mem_filter]
     refine and_congr_right fun _=>?_
     cases hb:Nat.beq x i with
     |true=>simp [Nat.eq_of_beq_eq_true hb]
     |false=>simp [Nat.ne_of_beq_eq_false hb]
    have htrs:tr.Sublist ts:=htr▸List.filter_sublist
    have htrp:tr.Pairwise (· < ·):=hpw.sublist htrs
    have htrn:tr.Nodup:=htsl.sublist htrs
    have hlen:tr.length < ts.length:=by rw [←htr];exact List.length_filter_lt_length_iff_exists.2 ⟨i,hm,by simp⟩
    obtain ⟨g1,g2,g3⟩:=gsel_sub (ops:=ops) (ex:=ex) tr []
    have g4:=gsel_disj (ops:=ops) (ex:=ex) tr [] htrn
    have g5:=gsel_spec (ops:=ops) (ex:=ex) tr [] htrp
    have g6:=grest_spec (ops:=ops) (ex:=ex) tr []
    have hgl:(gsel ops ex tr []).length+(grest ops ex tr []).length≤tr.length:=by
     have hn:(gsel ops ex tr []++grest ops ex tr []).Nodup:=List.nodup_append.2 ⟨htrn.sublist g1,htrn.sublist g2,fun x hx y hy e=>g4 x hx (e▸hy)⟩
     rw [←List.length_append]
     exact hn.length_le_of_subset fun x hx=>by
      rcases List.mem_append.1 hx with h1|h1
      ·exact g1.subset h1
      ·exact g2.subset h1
    have next:∀a1 w1,He P ops w1 (fun a'=>He P ops w1 (fun a'=>wpN P ops Q ex gf (k - 1) (grest ops ex tr []) a' w1) (gsel ops ex tr []) a') hs a1→wpAny P .any ops Q fuel (listed.setIfInBounds i true) a1 w1:=fun a1 w1 hh=>by
     have hnew:∀x∈gsel ops ex tr [],x∈ts∧x≠i:=fun x hx=>(hmem x).1 (g1.subset hx)
     refine ih _ (hs++gsel ops ex tr []) (grest ops ex tr []) (k - 1) a1 w1 hsz' (by rw [List.length_append];omega) ?_ (htrp.sublist g2) (fun x hx=>?_) (fun x hx=>?_) (fun x hx=>?_) (fun x hx=>hts x ((hmem x).1 (g2.subset hx)).1) (fun x hx hg=>?_) hcl' ?_ (fun j hj o ho e he hb=>?_) (He.app _ _ _ hh)
     ·exact List.nodup_append.2 ⟨hnd,htrn.sublist g1,fun x hx y hy e=>hdj x hx (e▸(hnew y hy).1)⟩
     ·rcases List.mem_append.1 hx with h1|h1
      ·exact fun h2=>hdj x h1 ((hmem x).1 (g2.subset h2)).1
      ·exact g4 x h1
     ·rw [hset x hx,hun x hx,List.mem_append]
      constructor
      ·rintro ⟨h1|h1,h2⟩
       ·exact .inl (.inl h1)
       ·rcases g3 x ((hmem x).2 ⟨h1,h2⟩) with h3|h3
        ·exact .inl (.inr h3)
        ·exact .inr h3
      ·rintro ((h1|h1)|h1)
       ·exact ⟨.inl h1,fun e=>hdj x h1 (e▸hm)⟩
       ·exact ⟨.inr (hnew x h1).1,(hnew x h1).2⟩
       ·have:=(hmem x).1 (g2.subset h1)
        exact ⟨.inr this.1,this.2⟩
     ·rcases List.mem_append.1 hx with h1|h1
      ·exact hhs x h1
      ·exact ⟨(g5 x h1).1,hts x (hnew x h1).1⟩
     ·obtain ⟨o,ho,e,he,hb,h1⟩:=g6 x hx hg
      exact ⟨o,ho,e,he,hb,h1.resolve_left (by simp)⟩
     ·refine List.pairwise_append.2 ⟨hord,?_,fun j hj y hy o ho e he hb hey=>?_⟩
      ·refine (htrp.sublist g1).imp fun {x y} hxy o ho e he hb hey=>?_
       have:=M.back x o ho e he hb
       omega
      ·rcases hdir j hj o ho e he hb with h1|h1
       ·rw [hey,notl y (hts y (hnew y hy).1) (.inr (hnew y hy).1)] at h1
        cases h1
       ·rw [hey] at h1
        exact hdj y h1 (hnew y hy).1
     ·rcases List.mem_append.1 hj with h1|h1
      ·rcases hdir j h1 o ho e he hb with h2|h2
       ·exact .inl (getD_set_true h2)
       ·exact .inr (List.mem_append.2 (.inl h2))
      ·have hlt:=M.back j o ho e he hb
       have hjl:=hts j (hnew j h1).1
       have hel:e.on < ops.size:=by omega
       obtain ⟨_,h2⟩:=(g5 j h1).2 o ho e he hb
       cases hle:(listed.setIfInBounds i true).getD e.on false with
       |true=>exact .inl rfl
       |false=>
        right
        have hun':(listed.setIfInBounds i true).getD e.on true=false:=getD_in (by rw [hsz'];exact hel) hle
        obtain ⟨h3,h4⟩:=(hset e.on hel).1 hun'
        rcases (hun e.on hel).1 h3 with h5|h5
        ·exact List.mem_append.2 (.inl h5)
        ·rcases g3 e.on ((hmem e.on).2 ⟨h5,h4⟩) with h6|h6
         ·exact List.mem_append.2 (.inr h6)
         ·exact (h2 hlt h6).elim
    have h1:He P ops w (fun a'=>wpOp P ops Q i (fun a1 w1=>(gf i=true→CD a' w a1 w1)∧He P ops w1 (fun a'=>wpN P ops Q ex gf (k - 1) (grest ops ex tr []) a' w1) (gsel ops ex tr []) a1) a' w) hs a:=He.mono (fun a' h2=>by
     cases k with
     |zero=>exact h2.elim
     |succ k=>
      rw [←htr]
      exact h2.2 i hrd) _ _ h
    cases hs with
    |nil=>
     have h1':wpOp P ops Q i (fun a1 w1=>(gf i=true→CD a w a1 w1)∧He P ops w1 (fun a'=>wpN P ops Q ex gf (k - 1) (grest ops ex tr []) a' w1) (gsel ops ex tr []) a1) a w:=h1
     exact wpOp_mono (fun a1 w1 h2=>next a1 w1 h2.2) h1'
    |cons j0 hs0=>
     have hA:∀j∈j0::hs0,∀oj,ops[j]? =some oj→(aOp oi.op=true∨pOp oj.op=true∨gf i=true)∧oj.apart ops oi=true:=fun j hj oj hoj=>by
      have hjn:=hhs j hj
      rcases M.tails i j oi oj hni hjn.1 hoi hoj with h1|h1|h1
      ·have h2:=hdep j h1 hjn.2
       rw [notl j hjn.2 (.inl hj)] at h2
       cases h2
      ·rcases hanc j j rfl hj i h1 hil with h2|h2
       ·rw [notl i hil (.inr hm)] at h2
        cases h2
       ·exact (hdj i h2 hm).elim
      ·exact h1
     cases hAi:aOp oi.op with
     |true=>
      have h2:=He.alloc M.sel hP hoi (fun a1 w1=>He P ops w1 (fun a'=>wpN P ops Q ex gf (k - 1) (grest ops ex tr []) a' w1) (gsel ops ex tr []) a1) (j0::hs0) a (fun j hj oj hoj=>(hA j hj oj hoj).2) (He.mono (fun a' h2=>wpOp_aOp hP hoi hAi (wpOp_mono (fun a1 w1 h3=>h3.2) h2)) _ _ h1)
      exact wpOp_mono (fun a1 w1 h3=>next a1 w1 h3.2) h2
     |false=>
      cases hGi:gf i with
      |true=>
       have h2:=He.alloc M.sel hP hoi (fun a1 w1=>He P ops w1 (fun a'=>wpN P ops Q ex gf (k - 1) (grest ops ex tr []) a' w1) (gsel ops ex tr []) a1) (j0::hs0) a (fun j hj oj hoj=>(hA j hj oj hoj).2) (He.mono (fun a' h2=>wpOp_mono (fun a1 w1 h3=>⟨h3.1 hGi,h3.2⟩) h2) _ _ h1)
       exact wpOp_mono (fun a1 w1 h3=>next a1 w1 h3.2) h2
      |false=>
       have h2:=He.tail M.sel hP hoi (fun a1 w1=>He P ops w1 (fun a'=>wpN P ops Q ex gf (k - 1) (grest ops ex tr []) a' w1) (gsel ops ex tr []) a1) (j0::hs0) a (fun j hj oj hoj=>⟨((hA j hj oj hoj).1.resolve_left (by rw [hAi];simp)).resolve_right (by rw [hGi];simp),(hA j hj oj hoj).2⟩) (He.mono (fun a' h2=>wpOp_mono (fun a1 w1 h3=>h3.2) h2) _ _ h1)
       exact wpOp_mono (fun a1 w1 h3=>next a1 w1 h3) h2
end
def frc (l:List Nat) (k:List Nat→Prop):Prop:=
 List.rec (motive:=fun _=>(List Nat→Prop)→Prop) (fun k=>k []) (fun x _ ih k=>fnat x fun x=>ih fun r=>k (x::r)) l k
theorem frc_eq:∀(l:List Nat) (k:List Nat→Prop),frc l k=k l
 | [],_=>rfl
 |x::r,k=>by
  show fnat x (fun x=>frc r fun r=>k (x::r))=_
  rw [fnat_eq,frc_eq r]
def xg1 (T:Tb) (P:Program) (n:Nat) (ops:Array Oper) (w:World) (o:Oper) (k:Env→Prop) (e:Env):Prop:=
 match o.guard with
 |none=>xr T P (ev n e) o w fun v=>fcv v fun v=>k (eup e o.dst v)
 |some (j,want)=>match gslot ops j with
  |none=>k (eup e o.dst undef)
  |some d=>match ev n e (.tmp d) with
   | .bool t=>
    match want with
    |true=>Br t (xr T P (ev n (eup e (some d) (.bool true))) o w fun v=>fcv v fun v=>k (eup (eup e (some d) (.bool true)) o.dst v)) (k (eup (eup e (some d) (.bool false)) o.dst undef))
    |false=>Br t (k (eup (eup e (some d) (.bool true)) o.dst undef)) (xr T P (ev n (eup e (some d) (.bool false))) o w fun v=>fcv v fun v=>k (eup (eup e (some d) (.bool false)) o.dst v))
   | .tuple _=>k (eup e o.dst undef)
   |_=>False
theorem xg1_sound {P:Program} {T:Tb} (hT:TabOk P T) {n:Nat} {ops:Array Oper} {w:World} {o:Oper} {k:Env→Prop} {K':Act→Prop} (hK:∀e a,Rel n e a→k e→K' a) {e:Env} {a:Act} (hr:Rel n e a) (h:xg1 T P n ops w o k e):∃v,Yd P ops o w v a∧K' (a.put o.dst v):=by
 have run:∀e',Rel n e' a→Region.wanted o (yielded ops a.tmps)=true→xr T P (ev n e') o w (fun v=>fcv v fun v=>k (eup e' o.dst v))→∃v,Yd P ops o w v a∧K' (a.put o.dst v):=fun e' hr' hw hx=>by
  obtain ⟨v,hv,hx⟩:=xr_sound hT hx
  rw [fcv_eq] at hx
  refine ⟨v, .inl ⟨hw,fun w' hc=>?_⟩,hK _ _ (hr'.put _ _) hx⟩
  rw [hr'.evals]
  exact hv w' hc
 have skip:∀e',Rel n e' a→Region.wanted o (yielded ops a.tmps)=false→k (eup e' o.dst undef)→∃v,Yd P ops o w v a∧K' (a.put o.dst v):=fun e' hr' hw hx=>⟨undef, .inr ⟨hw,rfl⟩,hK _ _ (hr'.put _ _) hx⟩
 unfold xg1 at h
 split at h
 ·rename_i hg
  exact run e hr (by simp [Region.wanted,hg]) h
 ·rename_i j want hg
  split at h
  ·rename_i hs
   refine skip e hr ?_ h
   have:(ops[j]?).bind (·.dst)=none:=by
    unfold gslot at hs
    cases ho:ops[j]? with
    |none=>rfl
    |some o=>rw [ho] at hs;simpa using hs
   simp [Region.wanted,hg,yielded,this]
  ·rename_i d hs
   have hy:=yielded_ev hr hs
   split at h
   ·rename_i t ht
    rw [ht] at hy
    have rt:t=true→Rel n (eup e (some d) (.bool true)) a:=fun e1=>hr.same (by rw [ht,e1])
    have rf:t=false→Rel n (eup e (some d) (.bool false)) a:=fun e1=>hr.same (by rw [ht,e1])
    split at h
    ·cases t with
     |true=>exact run _ (rt rfl) (by simp [Region.wanted,hg,hy]) (h.1 rfl)
     |false=>exact skip _ (rf rfl) (by simp [Region.wanted,hg,hy]) (h.2 rfl)
    ·cases t with
     |true=>exact skip _ (rt rfl) (by simp [Region.wanted,hg,hy]) (h.1 rfl)
     |false=>exact run _ (rf rfl) (by simp [Region.wanted,hg,hy]) (h.2 rfl)
   ·rename_i vs ht
    rw [ht] at hy
    exact skip e hr (by simp [Region.wanted,hg,hy]) h
   ·exact h.elim
def xgsF (T:Tb) (P:Program) (n:Nat) (ops:Array Oper) (ex:List Nat) (w:World) (i:Nat) (ih:List Nat→Env→Prop) (pend:List Nat) (e:Env):Prop:=
 match ops[i]? with
 |some o=>bif isRd o.op && !ex.elem i && indep o pend then xg1 T P n ops w o (fun e'=>ih pend e') e else ih (i::pend) e
 |none=>ih (i::pend) e
def xgs (T:Tb) (P:Program) (n:Nat) (ops:Array Oper) (ex:List Nat) (w:World) (K:List Nat→Env→Prop) (l:List Nat):List Nat→Env→Prop:=
 List.rec (motive:=fun _=>List Nat→Env→Prop) (fun pend e=>K pend.reverse e) (fun i _ ih=>xgsF T P n ops ex w i ih) l
theorem xgs_cons {T:Tb} {P:Program} {n:Nat} {ops:Array Oper} {ex:List Nat} {w:World} {K:List Nat→Env→Prop} {i:Nat} {r pend:List Nat} {e:Env}:xgs T P n ops ex w K (i::r) pend e=xgsF T P n ops ex w i (xgs T P n ops ex w K r) pend e:=rfl
theorem xgs_sound {P:Program} {T:Tb} (hT:TabOk P T) {n:Nat} {ops:Array Oper} {ex:List Nat} {w:World} {K:List Nat→Env→Prop} {K':Act→Prop} (tl:List Nat) (hK:∀e a,Rel n e a→K tl e→K' a):∀(l pend:List Nat) (e:Env) (a:Act),pend.reverse++grest ops ex l pend=tl→Rel n e a→xgs T P n ops ex w K l pend e→He P ops w K' (gsel ops ex l pend) a
 | [],pend,e,a,ht,hr,h=>hK e a hr (by
   have h:K pend.reverse e:=h
   rw [←ht]
   simpa [grest] using h)
 |i::r,pend,e,a,ht,hr,h=>by
  rw [xgs_cons] at h
  unfold xgsF at h
  unfold gsel
  cases ho:ops[i]? with
  |none=>
   rw [ho] at h
   simp only at h ⊢
   refine xgs_sound hT tl hK r (i::pend) e a ?_ hr h
   rw [←ht]
   conv=>rhs;unfold grest
   rw [ho]
   simp
  |some o=>
   rw [ho] at h
   simp only at h ⊢
   cases hb:(isRd o.op && !ex.elem i && indep o pend) with
   |false=>
    rw [hb] at h
    simp only [cond_false] at h ⊢
    refine xgs_sound hT tl hK r (i::pend) e a ?_ hr h
    rw [←ht]
    conv=>rhs;unfold grest
    rw [ho]
    simp only [hb,cond_false]
    simp
   |true=>
    rw [hb] at h
    simp only [cond_true] at h ⊢
    have ht':pend.reverse++grest ops ex r pend=tl:=by
     rw [←ht]
     conv=>rhs;unfold grest
     rw [ho]
     simp only [hb,cond_true]
    obtain ⟨v,hy,hk⟩:=xg1_sound hT (fun e1 a1 hr1 hx=>xgs_sound hT tl hK r pend e1 a1 ht' hr1 hx) hr h
    exact ⟨o,v,ho,hy,hk⟩
def xlG (T:Tb) (P:Program) (n:Nat) (ops:Array Oper) (g:Bool) (k:Env→World→Prop) (o:Oper) (e:Env) (w:World):Prop:=
 match o.guard with
 |none=>xo T P (ev n e) o w fun v w'=>bif g then Cn (Chg N0 w w') (fcv v fun v=>k (eup e o.dst v) w') else fcv v fun v=>k (eup e o.dst v) w'
 |some (j,want)=>match gslot ops j with
  |none=>k (eup e o.dst undef) w
  |some d=>match ev n e (.tmp d) with
   | .bool t=>
    match want with
    |true=>Br t (xo T P (ev n (eup e (some d) (.bool true))) o w fun v w'=>bif g then Cn (Chg N0 w w') (fcv v fun v=>k (eup (eup e (some d) (.bool true)) o.dst v) w') else fcv v fun v=>k (eup (eup e (some d) (.bool true)) o.dst v) w') (k (eup (eup e (some d) (.bool false)) o.dst undef) w)
    |false=>Br t (k (eup (eup e (some d) (.bool true)) o.dst undef) w) (xo T P (ev n (eup e (some d) (.bool false))) o w fun v w'=>bif g then Cn (Chg N0 w w') (fcv v fun v=>k (eup (eup e (some d) (.bool false)) o.dst v) w') else fcv v fun v=>k (eup (eup e (some d) (.bool false)) o.dst v) w')
   | .tuple _=>k (eup e o.dst undef) w
   |_=>False
theorem xlG_sound {P:Program} {T:Tb} (hT:TabOk P T) {n:Nat} {ops:Array Oper} {g:Bool} {k:Env→World→Prop} {K':Act→World→Prop} {Q:Exit→Act→World→Prop} {o:Oper} {i:Nat} (ho:ops[i]? =some o) (hK:∀e a w,Rel n e a→k e w→K' a w) {e:Env} {a:Act} {w:World} (hr:Rel n e a) (h:xlG T P n ops g k o e w):
  wpOp P ops Q i (fun a1 w1=>(g=true→CD a w a1 w1)∧K' a1 w1) a w:=by
 unfold wpOp
 simp only [ho]
 have run:∀e',Rel n e' a→Region.wanted o (yielded ops a.tmps)=true→xo T P (ev n e') o w (fun v w'=>bif g then Cn (Chg N0 w w') (fcv v fun v=>k (eup e' o.dst v) w') else fcv v fun v=>k (eup e' o.dst v) w')→
   if Region.wanted o (yielded ops a.tmps) then o.wp P a w (fun a1 w1=>(g=true→CD a w a1 w1)∧K' a1 w1) Q∨(o.asks P a w∧LetsOut Q) else (g=true→CD a w (a.put o.dst undef) w)∧K' (a.put o.dst undef) w:=fun e' hr' hw hx=>by
  rw [if_pos hw]
  refine .inl (gen_wp hr' (xo_sound hT hx) fun v w' hy=>?_)
  cases g with
  |true=>
   have hy:Cn (Chg N0 w w') (fcv v fun v=>k (eup e' o.dst v) w'):=hy
   have h2:=hy.2
   rw [fcv_eq] at h2
   exact ⟨fun _=>⟨hy.1,put_defers _ _ _⟩,hK _ _ _ (hr'.put _ _) h2⟩
  |false=>
   have hy:fcv v fun v=>k (eup e' o.dst v) w':=hy
   rw [fcv_eq] at hy
   exact ⟨fun hh=>(by cases hh),hK _ _ _ (hr'.put _ _) hy⟩
 have skip:∀e',Rel n e' a→Region.wanted o (yielded ops a.tmps)=false→k (eup e' o.dst undef) w→
   if Region.wanted o (yielded ops a.tmps) then o.wp P a w (fun a1 w1=>(g=true→CD a w a1 w1)∧K' a1 w1) Q∨(o.asks P a w∧LetsOut Q) else (g=true→CD a w (a.put o.dst undef) w)∧K' (a.put o.dst undef) w:=fun e' hr' hw hx=>by
  rw [if_neg (by rw [hw];simp)]
  exact ⟨fun _=>⟨Chg.refl _ _,put_defers _ _ _⟩,hK _ _ _ (hr'.put _ _) hx⟩
 unfold xlG at h
 split at h
 ·rename_i hg
  exact run e hr (by simp [Region.wanted,hg]) h
 ·rename_i j want hg
  split at h
  ·rename_i hs
   refine skip e hr ?_ h
   have:(ops[j]?).bind (·.dst)=none:=by
    unfold gslot at hs
    cases ho:ops[j]? with
    |none=>rfl
    |some o=>rw [ho] at hs;simpa using hs
   simp [Region.wanted,hg,yielded,this]
  ·rename_i d hs
   have hy:=yielded_ev hr hs
   split at h
   ·rename_i t ht
    rw [ht] at hy
    have rt:t=true→Rel n (eup e (some d) (.bool true)) a:=fun e1=>hr.same (by rw [ht,e1])
    have rf:t=false→Rel n (eup e (some d) (.bool false)) a:=fun e1=>hr.same (by rw [ht,e1])
    split at h
    ·cases t with
     |true=>exact run _ (rt rfl) (by simp [Region.wanted,hg,hy]) (h.1 rfl)
     |false=>exact skip _ (rf rfl) (by simp [Region.wanted,hg,hy]) (h.2 rfl)
    ·cases t with
     |true=>exact skip _ (rt rfl) (by simp [Region.wanted,hg,hy]) (h.1 rfl)
     |false=>exact run _ (rf rfl) (by simp [Region.wanted,hg,hy]) (h.2 rfl)
   ·rename_i vs ht
    rw [ht] at hy
    exact skip e hr (by simp [Region.wanted,hg,hy]) h
   ·exact h.elim
def xsF (T:Tb) (P:Program) (n:Nat) (ops:Array Oper) (ex:List Nat) (gf:Nat→Bool) (K:Env→World→Prop) (ih:List Nat→Env→World→Prop) (ts:List Nat) (e:Env) (w:World):Prop:=
 match ts with
 | []=>K e w
 |t0::r=>conjL (fun i=>match ops[i]? with
  |some o=>xlG T P n ops (gf i) (fun e' w'=>frc ((t0::r).filter fun j=> !Nat.beq j i) fun l=>xgs T P n ops ex w' (fun ts' e''=>frc ts' fun ts'=>ih ts' e'' w') l [] e') o e w
  |none=>False) (rdyT ops (t0::r))
def xs (T:Tb) (P:Program) (n:Nat) (ops:Array Oper) (ex:List Nat) (gf:Nat→Bool) (K:Env→World→Prop) (fuel:Nat):List Nat→Env→World→Prop:=
 Nat.rec (motive:=fun _=>List Nat→Env→World→Prop) (fun _ _ _=>False) (fun _ ih=>xsF T P n ops ex gf K ih) fuel
theorem xs_sound {P:Program} {T:Tb} (hT:TabOk P T) {n:Nat} {ops:Array Oper} {ex:List Nat} {gf:Nat→Bool} {K:Env→World→Prop} {Q:Exit→Act→World→Prop} (hQ:∀e a w,Rel n e a→K e w→Q .normal a w):
  ∀(fuel:Nat) (ts:List Nat) (e:Env) (a:Act) (w:World),Rel n e a→xs T P n ops ex gf K fuel ts e w→wpN P ops Q ex gf fuel ts a w
 |0,_,_,_,_,_,h=>h.elim
 |_+1, [],e,a,w,hr,h=>⟨fun _=>hQ e a w hr h,fun i hi=>by simp [rdyT] at hi⟩
 |fuel+1,t0::r,e,a,w,hr,h=>by
  have ih:=fun ts e a w=>xs_sound hT (ops:=ops) (ex:=ex) (gf:=gf) hQ fuel ts e a w
  refine ⟨fun hh=>(by cases hh),fun i hi=>?_⟩
  have h1:=conjL_all (show conjL _ (rdyT ops (t0::r)) from h) i hi
  cases ho:ops[i]? with
  |none=>rw [ho] at h1;exact h1.elim
  |some o=>
   rw [ho] at h1
   refine xlG_sound hT ho (fun e1 a1 w1 hr1 hx=>?_) hr h1
   rw [frc_eq] at hx
   refine xgs_sound hT (grest ops ex ((t0::r).filter fun j=> !Nat.beq j i) []) (fun e2 a2 hr2 hx2=>?_) _ [] e1 a1 (by simp) hr1 hx
   rw [frc_eq] at hx2
   exact ih _ _ _ _ hr2 hx2
def gfS (ops:Array Oper) (lst:Nat) (i:Nat):Bool:=match ops[i]? with
 |some o=>(gOp o.op|| isRd o.op) && !Nat.beq i lst
 |none=>false
theorem dr_autos (ex:List Nat) (lst:Nat) {P:Program} {T:Tb} (hT:TabOk P T) {n:Nat} {id:Nat} {l:List Oper} {K:Exit→Env→World→Prop} {e:Env} {w:World} (hm:P.follows .mixedOrders=true) (hB:mixSB l.toArray (gp l.toArray ex) (gfS l.toArray lst)=true)
  (h:frc (List.range l.length) fun r=>xgs T P n l.toArray ex w.drew (fun ts e'=>frc ts fun ts=>xs T P n l.toArray ex (gfS l.toArray lst) (fun e w=>K .normal e w) (l.length+1) ts e' w.drew) r [] e):Dr P n (.region id l.toArray true) K e w:=by
 refine dr_of fun rr a hfl hr=>?_
 have M:=mixS_of hB
 refine Code.wpIn_mono (Q:=QX n (fun ex e w=>match ex with| .panic _=>False| .outgrown=>False|ex=>K ex e w)) ?_ ?_
 ·rintro ex a' w' ⟨e',hr',hk⟩
  cases ex<;>first
   |exact ⟨e',hr',hk⟩
   |exact hk.elim
 obtain ⟨r,hrr⟩:∃r,List.range l.length=r:=⟨_,rfl⟩
 rw [frc_eq,hrr] at h
 have hmem:∀x,x∈r↔x < l.length:=fun x=>by rw [←hrr];exact List.mem_range
 have hp:r.Pairwise (· < ·):=hrr▸List.pairwise_lt_range
 have hn:r.Nodup:=hrr▸List.nodup_range
 obtain ⟨g1,g2,g3⟩:=gsel_sub (ops:=l.toArray) (ex:=ex) r []
 have g4:=gsel_disj (ops:=l.toArray) (ex:=ex) r [] hn
 have g5:=gsel_spec (ops:=l.toArray) (ex:=ex) r [] hp
 have g6:=grest_spec (ops:=l.toArray) (ex:=ex) r []
 refine region_in hfl (fun _ _ ⟨_,_,h⟩=>h) hm (mix_anyS M (fun c a w ⟨e,_,hk⟩=>hk) _ _ (gsel l.toArray ex r []) (grest l.toArray ex r []) (l.length+1) a _ (by simp) ?_ (hn.sublist g1) (hp.sublist g2) g4 (fun i hi=>?_) (fun i hi=>⟨(g5 i hi).1,by have:=(hmem i).1 (g1.subset hi);simpa using this⟩)
  (fun i hi=>by have:=(hmem i).1 (g2.subset hi);simpa using this) (fun x hx hg=>?_) (fun x y hx=>?_) ?_ (fun j hj o ho e he hb=>?_) ?_)
 ·have hnn:(gsel l.toArray ex r []++grest l.toArray ex r []).Nodup:=List.nodup_append.2 ⟨hn.sublist g1,hn.sublist g2,fun x hx y hy e=>g4 x hx (e▸hy)⟩
  rw [←List.length_append]
  have h1:(gsel l.toArray ex r []++grest l.toArray ex r []).length≤r.length:=hnn.length_le_of_subset fun x hx=>by
   rcases List.mem_append.1 hx with h1|h1
   ·exact g1.subset h1
   ·exact g2.subset h1
  have h2:r.length=l.length:=by rw [←hrr];exact List.length_range
  rw [h2] at h1
  simpa using h1
 ·have hi':i < l.length:=by simpa using hi
  constructor
  ·intro _
   exact g3 i ((hmem i).2 hi')
  ·intro _
   simp [hi']
 ·obtain ⟨o,ho,e,he,hb,h1⟩:=g6 x hx hg
  exact ⟨o,ho,e,he,hb,h1.resolve_left (by simp)⟩
 ·rw [getD_replicate_false] at hx;cases hx
 ·refine (hp.sublist g1).imp fun {x y} hxy o ho e he hb hey=>?_
  have:=M.back x o ho e he hb
  omega
 ·right
  have hlt:=M.back j o ho e he hb
  have hjl:=(hmem j).1 (g1.subset hj)
  obtain ⟨_,h2⟩:=(g5 j hj).2 o ho e he hb
  rcases g3 e.on ((hmem e.on).2 (by omega)) with h3|h3
  ·exact h3
  ·exact (h2 hlt h3).elim
 ·refine xgs_sound hT (grest l.toArray ex r []) (fun e2 a2 hr2 hx2=>?_) r [] e a (by simp) hr h
  rw [frc_eq] at hx2
  exact xs_sound hT (K:=fun e w=>K .normal e w) (fun e a w hr hk=>⟨e,hr,hk⟩) _ _ _ _ _ hr2 hx2
open Go.ChangeMaps (setBlock)
def seenOf (es:Array MapEntry) (done:List Nat):Array Nat:=(done.map fun i=>((es[i]?).map (·.born)).getD 0).toArray
def itR (b m:Nat) (es:Array MapEntry) (clock:Nat) (done:List Nat):Res where
 dom x:=x=b
 ok w:=w.heap[b]? =some (.mapIter (some m) clock (seenOf es done) clock)
 lt w h x hx:=by subst hx;exact heap_lt h
 loc w w' h hk:=(h b rfl).trans hk
section
variable {κ ν : Type} {enc : κ → Value} {val : ν → Value} {P : Program} {S : Nat → Prop} {w0 w w' : World} {rs : List Res} {b m : Nat} {es : Array MapEntry} {clock : Nat} {l : List (κ × ν)} {done : List Nat} {ρ : Operand → Value} {o : Oper} {g : Value → World → Prop}
end
attribute [irreducible] itR
end Go.Proofs.YtpbapnlnheahnaaGreatDoor
