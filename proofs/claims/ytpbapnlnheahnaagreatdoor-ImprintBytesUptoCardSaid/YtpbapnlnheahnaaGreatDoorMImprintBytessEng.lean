/- Eng: a reckoner of weakest preconditions by evaluation ('X'), and its soundness over the model's own rules. No condition. -/
import Derived.Test.YtpbapnlnheahnaaGreatDoorMImprintBytes1
import Derived.Scope
import Derived.StillTail
import Derived.StillTailTactics
import Derived.OrdersIn
import Derived.TacticsIn
import Derived.RangeFuncRecord
set_option linter.unusedSimpArgs false
set_option linter.unusedVariables false
namespace Go.Proofs.YtpbapnlnheahnaaGreatDoor
open Go.RowKit
structure Env where
 f:Nat→Value
 ds:List Nat
instance:CoeFun Env fun _=>Nat→Value:=⟨Env.f⟩
def ev (n:Nat) (e:Env):Operand→Value
 | .tmp t=>bif Nat.blt t n then e.f t else undef
 | .const v=>v
 | .global g=>.pointer (some ⟨g,0,none⟩)
 | .func f=>.func (.func f) #[] #[]
def eup (e:Env) (d:Option Nat) (v:Value):Env:=
 match d with
 |none=>e
 |some d=>⟨fun i=>bif Nat.beq i d then v else e.f i,e.ds⟩
def dmark (D:Nat):Deferred:={target:= .collected D,args:= #[]}
def Rel (n:Nat) (e:Env) (a:Act):Prop:=a.defers=e.ds.map dmark∧a.tmps.size=n∧∀i,i < n→a.tmps.getD i undef=e.f i
theorem Rel.eval {n:Nat} {e:Env} {a:Act} (h:Rel n e a) (x:Operand):a.eval x=ev n e x:=by
 cases x with
 |tmp t=>
  simp only [Act.eval,ev]
  by_cases ht:t < n
  ·rw [show Nat.blt t n=true by rw [Nat.blt_eq];exact ht]
   exact h.2.2 t ht
  ·rw [show Nat.blt t n=false by rw [←Bool.not_eq_true,Nat.blt_eq];exact ht]
   have:a.tmps.size≤t:=by rw [h.2.1];exact Nat.le_of_not_lt ht
   simp [this]
 |const v=>rfl
 |global g=>rfl
 |func f=>rfl
theorem Rel.evals {n:Nat} {e:Env} {a:Act} (h:Rel n e a):a.eval=ev n e:=funext h.eval
theorem Rel.put {n:Nat} {e:Env} {a:Act} (h:Rel n e a) (d:Option Nat) (v:Value):Rel n (eup e d v) (a.put d v):=by
 cases d with
 |none=>exact h
 |some d=>
  refine ⟨h.1,by simp [Act.put,h.2.1],fun i hi=>?_⟩
  simp only [Act.put,eup]
  by_cases hid:i=d
  ·subst hid
   rw [show Nat.beq i i=true by simp]
   have:i < a.tmps.size:=by rw [h.2.1];exact hi
   simp [this]
  ·rw [show Nat.beq i d=false by cases hb:Nat.beq i d with|false=>rfl|true=>exact absurd (Nat.eq_of_beq_eq_true hb) hid]
   have hne:d≠i:=fun e=>hid e.symm
   have:=h.2.2 i hi
   simpa [Array.getD_eq_getD_getElem?,Array.getElem?_setIfInBounds_ne hne] using this
theorem Rel.same {n:Nat} {e:Env} {a:Act} (h:Rel n e a) {d:Nat} {v:Value} (hv:ev n e (.tmp d)=v):Rel n (eup e (some d) v) a:=by
 refine ⟨h.1,h.2.1,fun i hi=>?_⟩
 rw [h.2.2 i hi]
 simp only [eup]
 by_cases hid:i=d
 ·subst hid
  rw [show Nat.beq i i=true by simp]
  simp only [ev] at hv
  rw [show Nat.blt i n=true by rw [Nat.blt_eq];exact hi] at hv
  exact hv
 ·rw [show Nat.beq i d=false by cases hb:Nat.beq i d with|false=>rfl|true=>exact absurd (Nat.eq_of_beq_eq_true hb) hid]
  rfl
def fcv (v:Value) (k:Value→Prop):Prop:=
 match v with
 | .int a b=>k (.int a b)
 | .bool b=>k (.bool b)
 | .pointer a=>k (.pointer a)
 | .slice a n c=>k (.slice a n c)
 | .agg cs=>k (.agg cs)
 | .tuple vs=>k (.tuple vs)
 | .string s=>k (.string s)
 | .map r=>k (.map r)
 | .func a b c=>k (.func a b c)
 |v=>k v
theorem fcv_eq (v:Value) (k:Value→Prop):fcv v k=k v:=by cases v<;>rfl
def fnat (n:Nat) (k:Nat→Prop):Prop:=
 match n with
 |0=>k 0|1=>k 1|2=>k 2|3=>k 3|4=>k 4|5=>k 5|6=>k 6|7=>k 7|8=>k 8|9=>k 9|10=>k 10|11=>k 11|12=>k 12|13=>k 13|14=>k 14|15=>k 15
 |16=>k 16|17=>k 17|18=>k 18|19=>k 19|20=>k 20|32=>k 32|33=>k 33|34=>k 34|35=>k 35|36=>k 36|37=>k 37|64=>k 64
 |n=>k n
def fargs (l:List Value):(List Value→Prop)→Prop:=
 List.rec (motive:=fun _=>(List Value→Prop)→Prop) (fun k=>k []) (fun v _ ih k=>fcv v fun v=>ih fun r=>k (v::r)) l
theorem fargs_eq:∀(l:List Value) (k:List Value→Prop),fargs l k=k l
 | [],_=>rfl
 |v::r,k=>by
  show fcv v (fun v=>fargs r fun r=>k (v::r))=_
  rw [fcv_eq,fargs_eq r]
theorem fnat_eq (n:Nat) (k:Nat→Prop):fnat n k=k n:=by unfold fnat;split<;>rfl
structure Br (t:Bool) (A B:Prop):Prop where
 one:t=true→A
 two:t=false→B
structure Ar (k:IntKind) (s:Int) (f:Int→Prop):Prop where
 out:∃r,k.wrap s=r∧f r
structure Cn (c:Prop) (A:Prop):Prop where
 one:c
 two:A
structure Ld (w:World) (a:Addr) (k:Value→Prop):Prop where
 out:∃v,w.cell? a=some v∧k v
structure LdN (w:World) (a:Addr) (n:Nat) (k:Value→Prop):Prop where
 out:∃cs:List Value,cs.length=n∧(∀(i:Nat) v,cs[i]? =some v→w.cell? (a.add i)=some v)∧k (.agg cs.toArray)
structure Al (w:World) (o:Obj) (k:Nat→World→Prop):Prop where
 out:k w.heap.size (w.alloc o)
def setCs (w:World) (a:Addr):List Value→Nat→World
 | [],_=>w
 |v::r,i=>setCs (w.setCell (a.add i) v) a r (i+1)
structure St (w:World) (a:Addr) (vs:List Value) (k:World→Prop):Prop where
 out:(∀v∈vs,v.oneCell'=true)∧(∀i,i < vs.length→(w.cell? (a.add i)).isSome=true∧w.frozen? (a.add i)=false)∧k (setCs w a vs 0)
structure Cl (P:Program) (f:FuncId) (args:Array Value) (w:World) (k:Value→World→Prop):Prop where
 out:Calls P f args w fun e w'=>∃v,e= .returned v∧k v w'
def Out (P:Program) (k:Value→World→Prop):Result Next→Prop
 | .ok (.value v) w'=>k v w'
 | .ok .skip w'=>k undef w'
 | .ok (.enter f args) w'=>Cl P f args w' k
 |_=>False
structure Gen (P:Program) (ρ:Operand→Value) (o:Oper) (w:World) (k:Value→World→Prop):Prop where
 out:Out P k ((execOp ρ o).run P w)
theorem gen_iff {P:Program} {ρ:Operand→Value} {o:Oper} {w:World} {k:Value→World→Prop}:Gen P ρ o w k↔Out P k ((execOp ρ o).run P w):=⟨fun h=>h.out,fun h=>⟨h⟩⟩
def layOf (P:Program) (t:TypeId):Option (Bool×Nat):=
 match P.underlying t,P.info? t with
 |some d,some i=>some ((match d with| .struct _=>true| .array _ _=>true|_=>false),i.size)
 |_,_=>none
def zeroOf (P:Program) (t:TypeId):Option Value:=match P.info? t with|some i=>i.zero|none=>none
def offOf (P:Program) (s:TypeId) (f:Nat):Option Nat:=
 match P.underlying s with
 |some (.struct fs)=>match fs[f]? with
  |some fl=>match P.info? fl.type with
   |some i=>bif Nat.beq i.size 0 then none else some fl.offset
   |none=>none
  |none=>none
 |_=>none
def elemOfT (P:Program) (t:TypeId):Option (Bool×Nat×Nat):=
 match P.underlying t with
 |some (.slice e)=>match P.info? e with|some i=>some (true,0,i.size)|none=>none
 |some (.array n e)=>match P.info? e with|some i=>some (false,n,i.size)|none=>none
 |_=>none
inductive TK where
 |int (k:IntKind)|bool|str|ptr (e:Nat)|sl (e esize:Nat)|arr (n e esize:Nat)|mp (k e:Nat)|st|other
structure TE where
 agg:Bool
 size:Nat
 zero:Option Value
 kind:TK
 flds:List (Nat×Nat)
inductive Tr (α:Type) where
 |leaf
 |node (l:Tr α) (k:Nat) (v:α) (r:Tr α)
def Tr.get {α:Type}:Tr α→Nat→Option α
 | .leaf,_=>none
 | .node l k v r,t=>bif Nat.blt t k then l.get t else bif Nat.beq t k then some v else r.get t
def Tr.all {α:Type} (p:Nat→α→Bool):Tr α→Bool
 | .leaf=>true
 | .node l k v r=>l.all p && (p k v && r.all p)
theorem Tr.all_get {α:Type} {p:Nat→α→Bool}:∀{T:Tr α} {t:Nat} {v:α},T.all p=true→T.get t=some v→p t v=true
 | .leaf,_,_,_,h=>by cases h
 | .node l k v r,t,u,ha,h=>by
  simp only [Tr.all,Bool.and_eq_true] at ha
  unfold Tr.get at h
  cases h1:Nat.blt t k with
  |true=>rw [h1] at h;exact Tr.all_get ha.1 h
  |false=>
   rw [h1] at h
   cases h2:Nat.beq t k with
   |true=>
    rw [h2] at h
    have:=Nat.eq_of_beq_eq_true h2
    subst this
    simp only [cond_false,cond_true,Option.some.injEq] at h
    subst h
    exact ha.2.1
   |false=>rw [h2] at h;exact Tr.all_get ha.2.2 h
structure Tb where
 ty:Tr TE
 fn:Tr Unit
def vEq1:Value→Value→Bool
 | .int k a, .int k' b=>decide (k=k') && decide (a=b)
 | .bool a, .bool b=>a==b
 | .string a, .string b=>decide (a.data.toList=b.data.toList)
 | .pointer none, .pointer none=>true
 | .slice none n c, .slice none n' c'=>Nat.beq n n' && Nat.beq c c'
 | .map none, .map none=>true
 | .nilFunc, .nilFunc=>true
 | .nilIface, .nilIface=>true
 |_,_=>false
def vEqs:List Value→List Value→Bool
 | [], []=>true
 |a::r,b::s=>vEq1 a b && vEqs r s
 |_,_=>false
def vEq:Value→Value→Bool
 | .agg a, .agg b=>vEqs a.toList b.toList
 |a,b=>vEq1 a b
theorem vEq1_eq {a b:Value} (h:vEq1 a b=true):a=b:=by
 unfold vEq1 at h
 split at h<;>simp at h
 ·obtain ⟨rfl,rfl⟩:=h;rfl
 ·subst h;rfl
 ·rename_i a b
  have:a=b:=by
   cases a;cases b
   simp at h
   simp [h]
  rw [this]
 ·rfl
 ·obtain ⟨h1,h2⟩:=h
  rw [h1,h2]
 ·rfl
 ·rfl
 ·rfl
theorem vEqs_eq:∀{a b:List Value},vEqs a b=true→a=b
 | [], [],_=>rfl
 | [],_::_,h=>by simp [vEqs] at h
 |_::_, [],h=>by simp [vEqs] at h
 |a::r,b::s,h=>by
  simp only [vEqs,Bool.and_eq_true] at h
  rw [vEq1_eq h.1,vEqs_eq h.2]
theorem vEq_eq {a b:Value} (h:vEq a b=true):a=b:=by
 unfold vEq at h
 split at h
 ·rename_i a b
  have:=vEqs_eq h
  cases a;cases b
  simp at this
  rw [this]
 ·exact vEq1_eq h
def fldsOf (P:Program):List Field→Option (List (Nat×Nat))
 | []=>some []
 |f::r=>match P.info? f.type with
  |some i=>match fldsOf P r with
   |some l=>some ((f.offset,i.size)::l)
   |none=>none
  |none=>none
def kindOk (P:Program) (d:TypeDesc):TK→Bool
 | .int k=>match d with| .int k'=>decide (k=k')|_=>false
 | .bool=>match d with| .bool=>true|_=>false
 | .str=>match d with| .string=>true|_=>false
 | .ptr e=>match d with| .pointer e'=>Nat.beq e e'|_=>false
 | .sl e z=>match d with| .slice e'=>Nat.beq e e' && (match P.info? e with|some i=>Nat.beq i.size z|none=>false)|_=>false
 | .arr n e z=>match d with| .array n' e'=>Nat.beq n n' && Nat.beq e e' && (match P.info? e with|some i=>Nat.beq i.size z|none=>false)|_=>false
 | .mp k e=>match d with| .map k' e'=>Nat.beq k k' && Nat.beq e e'|_=>false
 | .st=>match d with| .struct _=>true|_=>false
 | .other=>true
def pairsEq:List (Nat×Nat)→List (Nat×Nat)→Bool
 | [], []=>true
 |(a,b)::r,(c,d)::s=>Nat.beq a c && (Nat.beq b d && pairsEq r s)
 |_,_=>false
theorem pairsEq_eq:∀{a b:List (Nat×Nat)},pairsEq a b=true→a=b
 | [], [],_=>rfl
 | [],_::_,h=>by simp [pairsEq] at h
 |_::_, [],h=>by simp [pairsEq] at h
 |(a,b)::r,(c,d)::s,h=>by
  simp only [pairsEq,Bool.and_eq_true] at h
  rw [Nat.eq_of_beq_eq_true h.1,Nat.eq_of_beq_eq_true h.2.1,pairsEq_eq h.2.2]
def teOk (P:Program) (t:Nat) (e:TE):Bool:=
 match P.underlying t,P.info? t with
 |some d,some i=>
  ((match d with| .struct _=>true| .array _ _=>true|_=>false)==e.agg) && Nat.beq i.size e.size && kindOk P d e.kind &&
  (match e.zero with|none=>true|some z=>match i.zero with|some z'=>vEq z z'|none=>false) &&
  (match d with| .struct fs=>(match fldsOf P fs.toList with|some l=>pairsEq l e.flds|none=>false)|_=>pairsEq [] e.flds)
 |_,_=>false
def fnOk (P : Program) (f : Nat) (_ : Unit) : Bool := match P.funcs[f]? with | some fn => fn.body.isSome && !(fn.name == "runtime.NumGoroutine") | none => false
structure TabOk (P:Program) (T:Tb):Prop where
 ty:T.ty.all (teOk P)=true
 fn:T.fn.all (fnOk P)=true
def layT (T:Tb) (t:TypeId):Option (Bool×Nat):=match T.ty.get t with|some e=>some (e.agg,e.size)|none=>none
def zeroT (T:Tb) (t:TypeId):Option Value:=match T.ty.get t with|some e=>e.zero|none=>none
def kindT (T:Tb) (t:TypeId):TK:=match T.ty.get t with|some e=>e.kind|none=>.other
def nthP:List (Nat×Nat)→Nat→Option (Nat×Nat)
 | [],_=>none
 |p::_,0=>some p
 |_::r,n+1=>nthP r n
def offT (T:Tb) (s:TypeId) (f:Nat):Option Nat:=match T.ty.get s with
 |some e=>match nthP e.flds f with
  |some (o,z)=>bif Nat.beq z 0 then none else some o
  |none=>none
 |none=>none
theorem nthP_get:∀(l:List (Nat×Nat)) (n:Nat),nthP l n=l[n]?
 | [],_=>by simp [nthP]
 |_::_,0=>rfl
 |_::r,n+1=>by simpa [nthP] using nthP_get r n
theorem fldsOf_get {P:Program}:∀{fs:List Field} {l:List (Nat×Nat)} {j o z:Nat},fldsOf P fs=some l→l[j]? =some (o,z)→∃f i,fs[j]? =some f∧P.info? f.type=some i∧f.offset=o∧i.size=z
 | [],l,j,o,z,h,hj=>by simp [fldsOf] at h;subst h;simp at hj
 |f::r,l,j,o,z,h,hj=>by
  unfold fldsOf at h
  split at h
  ·rename_i i hi
   split at h
   ·rename_i l' hl'
    simp only [Option.some.injEq] at h
    subst h
    cases j with
    |zero=>
     simp at hj
     exact ⟨f,i,rfl,hi,hj.1,hj.2⟩
    |succ j=>
     simp at hj
     simpa using fldsOf_get hl' hj
   ·cases h
  ·cases h
section
variable {P : Program} {T : Tb} (hT : TabOk P T)
include hT
theorem TabOk.te {t:Nat} {e:TE} (h:T.ty.get t=some e):∃d i,P.underlying t=some d∧P.info? t=some i∧(match d with| .struct _=>true| .array _ _=>true|_=>false)=e.agg∧i.size=e.size∧kindOk P d e.kind=true∧
  (∀z,e.zero=some z→i.zero=some z)∧(∀fs,d= .struct fs→fldsOf P fs.toList=some e.flds)∧((∀fs,d≠ .struct fs)→e.flds= []):=by
 have h1:=Tr.all_get hT.ty h
 unfold teOk at h1
 split at h1
 ·rename_i d i hd hi
  simp only [Bool.and_eq_true,beq_iff_eq] at h1
  obtain ⟨⟨⟨⟨h2,h3⟩,h4⟩,h5⟩,h6⟩:=h1
  refine ⟨d,i,hd,hi,h2,Nat.eq_of_beq_eq_true h3,h4,fun z hz=>?_,fun fs hfs=>?_,fun hn=>?_⟩
  ·rw [hz] at h5
   simp only at h5
   split at h5
   ·rename_i z' hz'
    rw [hz',vEq_eq h5]
   ·cases h5
  ·subst hfs
   simp only at h6
   split at h6
   ·rename_i l hl
    rw [hl,pairsEq_eq h6]
   ·cases h6
  ·split at h6
   ·rename_i fs
    exact (hn fs rfl).elim
   ·exact (pairsEq_eq h6).symm
 ·cases h1
theorem TabOk.lay {t:Nat} {r:Bool×Nat} (h:layT T t=some r):layOf P t=some r:=by
 unfold layT at h
 split at h
 ·rename_i e he
  obtain ⟨d,i,hd,hi,h1,h2,_⟩:=hT.te he
  simp only [Option.some.injEq] at h
  subst h
  unfold layOf
  rw [hd,hi]
  simp only [h1,h2]
 ·cases h
theorem TabOk.zero {t:Nat} {z:Value} (h:zeroT T t=some z):zeroOf P t=some z:=by
 unfold zeroT at h
 split at h
 ·rename_i e he
  obtain ⟨d,i,hd,hi,_,_,_,h3,_⟩:=hT.te he
  unfold zeroOf
  rw [hi]
  exact h3 z h
 ·cases h
theorem TabOk.off {s f n:Nat} (h:offT T s f=some n):offOf P s f=some n:=by
 unfold offT at h
 split at h
 ·rename_i e he
  obtain ⟨d,i,hd,hi,_,_,_,_,h4,h5⟩:=hT.te he
  split at h
  ·rename_i o z hz
   rw [nthP_get] at hz
   cases hb:Nat.beq z 0 with
   |true=>rw [hb] at h;cases h
   |false=>
    rw [hb] at h
    simp only [cond_false,Option.some.injEq] at h
    subst h
    cases d with
    |struct fs=>
     obtain ⟨f',i',hf,hi',ho,hz'⟩:=fldsOf_get (h4 fs rfl) hz
     unfold offOf
     rw [hd]
     simp only [←Array.getElem?_toList,hf,hi',hz',hb,cond_false,ho]
    |_=>rw [h5 (by simp)] at hz;simp at hz
  ·cases h
 ·cases h
theorem TabOk.kind {t:Nat}:(∀k,kindT T t= .int k→P.underlying t=some (.int k))∧(kindT T t= .bool→P.underlying t=some .bool)∧(kindT T t= .str→P.underlying t=some .string)∧
  (∀e,kindT T t= .ptr e→P.underlying t=some (.pointer e))∧(∀e z,kindT T t= .sl e z→P.underlying t=some (.slice e))∧(∀k e,kindT T t= .mp k e→P.underlying t=some (.map k e)):=by
 unfold kindT
 cases he:T.ty.get t with
 |none=>simp
 |some e=>
  obtain ⟨d,i,hd,hi,_,_,hk,_⟩:=hT.te he
  simp only
  refine ⟨fun k h=>?_,fun h=>?_,fun h=>?_,fun e h=>?_,fun e z h=>?_,fun k e h=>?_⟩<;>rw [h] at hk<;>cases d<;>simp [kindOk] at hk<;>rw [hd]
  ·rw [hk]
  ·rw [hk]
  ·rw [hk.1]
  ·rw [hk.1,hk.2]
theorem TabOk.func {f : Nat} (h : T.fn.get f = some ()) : ∃ fn body, P.funcs[f]? = some fn ∧ fn.body = some body ∧ (fn.name == "runtime.NumGoroutine") = false := by
 have h1:=Tr.all_get hT.fn h
 unfold fnOk at h1
 split at h1
 ·rename_i fn hfn
  simp only [Bool.and_eq_true,Bool.not_eq_true'] at h1
  obtain ⟨body,hb⟩:=Option.isSome_iff_exists.1 h1.1
  exact ⟨fn,body,hfn,hb,h1.2⟩
 ·cases h1
end
section
variable {P : Program} {w : World}
theorem run_isAgg {t:TypeId} {b:Bool} {n:Nat} (h:layOf P t=some (b,n)):(isAgg t).run P w= .ok b w∧(sizeOf t).run P w= .ok n w:=by
 unfold layOf at h
 split at h
 ·rename_i d i hd hi
  simp only [Option.some.injEq,Prod.mk.injEq] at h
  constructor
  ·rw [←h.1]
   cases d<;>simp [isAgg,run_underlying hd]
  ·rw [←h.2]
   simp [sizeOf,typeInfo,hi]
 ·cases h
theorem run_zeroOf {t:TypeId} {v:Value} (h:zeroOf P t=some v):(zeroValue t).run P w= .ok v w:=by
 unfold zeroOf at h
 split at h
 ·rename_i i hi
  simp [zeroValue,typeInfo,hi,h]
 ·cases h
theorem add_plain (b o n:Nat):Addr.add ⟨b,o,none⟩ n=⟨b,o+n,none⟩:=by
 unfold Addr.add
 split
 ·rename_i h;subst h;rfl
 ·rfl
theorem run_fieldAt {s:TypeId} {f n b o:Nat} (h:offOf P s f=some n):(Instr.fieldAt s (.pointer (some ⟨b,o,none⟩)) f).run P w= .ok (.pointer (some ⟨b,o+n,none⟩)) w:=by
 unfold offOf at h
 split at h
 ·rename_i fs hs
  split at h
  ·rename_i fl hf
   split at h
   ·rename_i i hi
    cases hz:Nat.beq i.size 0 with
    |true=>rw [hz] at h;cases h
    |false=>
     rw [hz] at h
     simp only [cond_false,Option.some.injEq] at h
     have hz':i.size≠0:=fun e=>by rw [e] at hz;cases hz
     simp [Instr.fieldAt,run_underlying hs,hf,Instr.sureAddr,fieldPlace,sizeOf,typeInfo,hi,hz',add_plain,h]
   ·cases h
  ·cases h
 ·cases h
theorem run_cells {a:Addr} {cs:List Value} (h:∀(i:Nat) v,cs[i]? =some v→w.cell? (a.add i)=some v):(loadCells a cs.length).run P w= .ok cs.toArray w:=
 run_loadCells_list w a cs h
theorem run_storeCells (a:Addr):∀(vs:List Value) (i:Nat) (w:World),(∀v∈vs,v.oneCell'=true)→(∀j,j < vs.length→(w.cell? (a.add (i+j))).isSome=true∧w.frozen? (a.add (i+j))=false)→
  (storeCells a vs i).run P w= .ok () (setCs w a vs i)
 | [],i,w,_,_=>by simp [storeCells,setCs]
 |v::r,i,w,h1,h2=>by
  have h0:=h2 0 (by simp)
  have ho:=h1 v (by simp)
  obtain ⟨old,hc⟩:=Option.isSome_iff_exists.1 h0.1
  simp only [Nat.add_zero] at hc h0
  have hs:(store (a.add i) v).run P w= .ok () (w.setCell (a.add i) v):=by
   cases v<;>simp_all [store,Sem.run,Value.oneCell']
  simp only [storeCells,Sem.run_bind,hs,Result.andThen_ok,setCs]
  refine run_storeCells a r (i+1) _ (fun u hu=>h1 u (by simp [hu])) (fun j hj=>?_)
  have h3:=h2 (j+1) (by simpa using hj)
  have e:i+(j+1)=i+1+j:=by omega
  rw [e] at h3
  refine ⟨?_,by rw [World.frozen?_setCell];exact h3.2⟩
  by_cases hae:a.add i=a.add (i+1+j)
  ·rw [←hae,World.cell?_setCell_same' w _ _ (by rw [hc];rfl)];rfl
  ·rw [World.cell?_setCell_other w _ _ _ hae];exact h3.1
end
def xint (op:BinOp) (k k':IntKind) (m n:Int) (w:World) (g:Value→World→Prop) (gen:Prop):Prop:=
 match op with
 | .shl| .shr=>gen
 |_=>bif decide (k=k') then (match op with
  | .add=>Ar k (m+n) fun r=>g (.int k r) w
  | .sub=>Ar k (m - n) fun r=>g (.int k r) w
  | .mul=>Ar k (m*n) fun r=>g (.int k r) w
  | .quo=>Cn (n≠0) (Ar k (m.tdiv n) fun r=>g (.int k r) w)
  | .rem=>Cn (n≠0) (g (.int k (m.tmod n)) w)
  | .eql=>g (.bool (m==n)) w
  | .neq=>g (.bool (m !=n)) w
  | .lss=>g (.bool (decide (m < n))) w
  | .leq=>g (.bool (decide (m≤n))) w
  | .gtr=>g (.bool (decide (m > n))) w
  | .geq=>g (.bool (decide (m≥n))) w
  |_=>gen) else False
def xnil {α:Type} (op:BinOp) (a b:Option α) (w:World) (g:Value→World→Prop) (gen:Prop):Prop:=
 match op,a,b with
 | .eql,none,none=>g (.bool true) w
 | .eql,some _,none=>g (.bool false) w
 | .neq,none,none=>g (.bool false) w
 | .neq,some _,none=>g (.bool true) w
 |_,_,_=>gen
def xo (T:Tb) (P:Program) (ρ:Operand→Value) (o:Oper) (w:World) (g:Value→World→Prop):Prop:=
 match o.op with
 | .move x| .assign x=>g (ρ x) w
 | .pick c a b=>match ρ c with
  | .bool t=>Br t (g (ρ a) w) (g (ρ b) w)
  |_=>False
 | .alloc t=>match zeroT T t with
  |some z=>Al w (.cells z.cells t) fun b w'=>g (.pointer (some ⟨b,0,none⟩)) w'
  |none=>False
 | .box t x=>match ρ x with
  | .agg cs=>Al w (.cells cs t) fun b w'=>g (.pointer (some ⟨b,0,none⟩)) w'
  |v=>fcv v fun v=>Al w (.cells #[v] t) fun b w'=>g (.pointer (some ⟨b,0,none⟩)) w'
 | .load t a=>match ρ a with
  | .pointer (some ad)=>match layT T t with
   |some (false,_)=>Ld w ad fun v=>g v w
   |some (true,n)=>LdN w ad n fun v=>g v w
   |none=>False
  |_=>False
 | .store t a x=>match ρ a with
  | .pointer (some ad)=>match layT T t with
   |some (_,n)=>match ρ x with
    | .agg cs=>Cn (cs.size=n) (St w ad cs.toList fun w'=>g undef w')
    |v=>fcv v fun v=>Cn (1=n) (St w ad [v] fun w'=>g undef w')
   |none=>False
  |_=>False
 | .nilCheck x=>match ρ x with
  | .pointer (some a)=>g (.pointer (some a)) w
  |_=>Gen P ρ o w g
 | .fieldAddr s x f=>match ρ x with
  | .pointer (some ⟨b,ofs,none⟩)=>match offT T s f with
   |some n=>fnat n fun n=>g (.pointer (some ⟨b,ofs+n,none⟩)) w
   |none=>Gen P ρ o w g
  |_=>Gen P ρ o w g
 | .extract t i=>match ρ t with
  | .tuple vs=>match vs[i]? with
   |some v=>g v w
   |none=>False
  |_=>Gen P ρ o w g
 | .binOp op t x y _=>match ρ x,ρ y with
  | .int k m, .int k' n=>xint op k k' m n w g (Gen P ρ o w g)
  | .bool a, .bool b=>match kindT T t,op with
   | .bool, .eql=>g (.bool (a==b)) w
   | .bool, .neq=>g (.bool (a !=b)) w
   |_,_=>Gen P ρ o w g
  | .pointer a, .pointer b=>match kindT T t with
   | .ptr _=>xnil op a b w g (Gen P ρ o w g)
   |_=>Gen P ρ o w g
  | .map a, .map b=>match kindT T t with
   | .mp _ _=>xnil op a b w g (Gen P ρ o w g)
   |_=>Gen P ρ o w g
  |_,_=>Gen P ρ o w g
 | .convert src dst x=>match kindT T src,kindT T dst,ρ x with
  | .int _, .int k, .int _ n=>Ar k n fun r=>g (.int k r) w
  |_,_,_=>Gen P ρ o w g
 | .unOp .not _ x=>match ρ x with
  | .bool b=>g (.bool (!b)) w
  |_=>Gen P ρ o w g
 | .call c=>match c.callee with
  | .value x=>match ρ x with
   | .func (.func f) first cap=>match T.fn.get f with
    |some _=>fargs (first.toList++c.args.toList.map ρ++cap.toList) fun l=>Cl P f l.toArray w g
    |none=>Gen P ρ o w g
   |_=>Gen P ρ o w g
  |_=>Gen P ρ o w g
 |_=>Gen P ρ o w g
section
variable {P : Program} {w : World} {t : TypeId}
theorem eqIn_bool (d:Nat) (ht:P.underlying t=some .bool) (a b:Bool):(Op.equalIn (d+1) t (.bool a) (.bool b)).run P w= .ok (a==b) w:=by simp [Op.equalIn,run_underlying ht]
theorem eqIn_ptr (d:Nat) {e:TypeId} (ht:P.underlying t=some (.pointer e)) (a:Option Addr):(Op.equalIn (d+1) t (.pointer a) (.pointer none)).run P w= .ok a.isNone w:=by cases a<;>simp [Op.equalIn,run_underlying ht]
theorem eqIn_map (d:Nat) {k e:TypeId} (ht:P.underlying t=some (.map k e)) (a:Option Nat):(Op.equalIn (d+1) t (.map a) (.map none)).run P w= .ok a.isNone w:=by cases a<;>simp [Op.equalIn,run_underlying ht]
theorem run_eql_of {x y:Value} {b:Bool} (h:(Op.equalIn 10000 t x y).run P w= .ok b w) (hb:∀op,binOp op t x y=(match op with| .eql=>do pure (.bool (←Op.equal t x y))| .neq=>do pure (.bool (!(←Op.equal t x y)))|_=>binOp op t x y)):
  (binOp .eql t x y).run P w= .ok (.bool b) w∧(binOp .neq t x y).run P w= .ok (.bool (!b)) w:=by
 rw [hb .eql,hb .neq]
 have h':(Op.equal t x y).run P w= .ok b w:=h
 constructor
 ·simp only [Sem.run_bind,h',Result.andThen_ok,Sem.run_pure]
 ·simp only [Sem.run_bind,h',Result.andThen_ok,Sem.run_pure]
end
theorem gen_bin {P:Program} {ρ:Operand→Value} {o:Oper} {w:World} {g:Value→World→Prop} {op:BinOp} {t t2:TypeId} {x y:Operand} {v:Value} (hop:o.op= .binOp op t x y t2) (hg:eqGuard op t x y (ρ x) (ρ y)=pure ()) (hr:(binOp op t (ρ x) (ρ y)).run P w= .ok v w) (h:g v w):Gen P ρ o w g:=by
 simpa [gen_iff,execOp,hop,Out,hg,hr] using h
theorem xo_sound {P:Program} {T:Tb} (hT:TabOk P T) {ρ:Operand→Value} {o:Oper} {w:World} {g:Value→World→Prop} (h:xo T P ρ o w g):Gen P ρ o w g:=by
 unfold xo at h
 split at h
 ·rename_i x hop
  simpa [gen_iff,execOp,hop,Out] using h
 ·rename_i x hop
  simpa [gen_iff,execOp,hop,Out] using h
 ·rename_i c a b hop
  split at h
  ·rename_i t ht
   cases t with
   |true=>simpa [gen_iff,execOp,hop,Out,ht,asBool] using h.1 rfl
   |false=>simpa [gen_iff,execOp,hop,Out,ht,asBool] using h.2 rfl
  ·exact h.elim
 ·rename_i t hop
  split at h
  ·rename_i z hz
   have hz:=hT.zero hz
   replace h:=h.out
   simpa [gen_iff,execOp,hop,Out,Instr.alloc,run_zeroOf hz,newVar,newRow,newObj,Sem.run] using h
  ·exact h.elim
 ·rename_i t x hop
  have e1:Al w (.cells (ρ x).cells t) fun b w'=>g (.pointer (some ⟨b,0,none⟩)) w':=by
   split at h
   ·rename_i cs hx
    rw [hx]
    exact h
   ·rename_i hne
    rw [fcv_eq] at h
    have:(ρ x).cells= #[ρ x]:=by
     cases hv:ρ x<;>first|rfl|exact (hne _ hv).elim
    rw [this]
    exact h
  replace e1:=e1.out
  simpa [gen_iff,execOp,hop,Out,Instr.box,newVar,newRow,newObj,Sem.run] using e1
 ·rename_i t a hop
  split at h
  ·rename_i ad ha
   split at h
   ·rename_i n hl
    have hl:=hT.lay hl
    obtain ⟨h1,h2⟩:=run_isAgg (w:=w) hl
    obtain ⟨v,hv,hg⟩:=h
    simpa [gen_iff,execOp,hop,Out,ha,Instr.loadAt,Instr.sureAddr,loadVar,h1,load,Sem.run,hv] using hg
   ·rename_i n hl
    have hl:=hT.lay hl
    obtain ⟨h1,h2⟩:=run_isAgg (w:=w) hl
    obtain ⟨cs,hlen,hv,hg⟩:=h
    subst hlen
    simpa [gen_iff,execOp,hop,Out,ha,Instr.loadAt,Instr.sureAddr,loadVar,h1,h2,run_cells hv] using hg
   ·exact h.elim
  ·exact h.elim
 ·rename_i t a x hop
  split at h
  ·rename_i ad ha
   split at h
   ·rename_i b n hl
    have hl:=hT.lay hl
    obtain ⟨h1,h2⟩:=run_isAgg (w:=w) hl
    have e1:Cn ((ρ x).cells.size=n) (St w ad (ρ x).cells.toList fun w'=>g undef w'):=by
     split at h
     ·rename_i cs hx
      rw [hx]
      exact h
     ·rename_i hne
      rw [fcv_eq] at h
      have:(ρ x).cells= #[ρ x]:=by
       cases hv:ρ x<;>first|rfl|exact (hne _ hv).elim
      rw [this]
      exact h
    obtain ⟨hsz,ho,hc,hg⟩:=e1
    have hst:=run_storeCells (P:=P) ad (ρ x).cells.toList 0 w ho (by simpa using hc)
    simp [gen_iff,execOp,hop,Out,ha,Instr.storeAt,Instr.sureAddr,storeVar,h2,hsz,hst]
    exact hg
   ·exact h.elim
  ·exact h.elim
 ·rename_i x hop
  split at h
  ·rename_i a ha
   simpa [gen_iff,execOp,hop,Out,ha] using h
  ·exact h
 ·rename_i s x f hop
  split at h
  ·rename_i b ofs ha
   split at h
   ·rename_i n hn
    have hn:=hT.off hn
    rw [fnat_eq] at h
    simpa [gen_iff,execOp,hop,Out,ha,run_fieldAt hn] using h
   ·exact h
  ·exact h
 ·rename_i t i hop
  split at h
  ·rename_i vs ht
   split at h
   ·rename_i v hv
    simpa [gen_iff,execOp,hop,Out,ht,Instr.extract,hv] using h
   ·exact h.elim
  ·exact h
 ·rename_i op t x y t2 hop
  split at h
  ·rename_i k m k' n hx hy
   unfold xint at h
   split at h
   ·exact h
   ·exact h
   ·rename_i hns1 hns2
    obtain rfl:k=k':=by
     by_cases hk:k=k'
     ·exact hk
     ·simp [hk] at h
    simp only [decide_true,cond_true] at h
    split at h
    ·obtain ⟨r,rfl,h⟩:=h;simpa [gen_iff,execOp,hop,Out,hx,hy,binOp,Op.intArith,eqGuard_at_int] using h
    ·obtain ⟨r,rfl,h⟩:=h;simpa [gen_iff,execOp,hop,Out,hx,hy,binOp,Op.intArith,eqGuard_at_int] using h
    ·obtain ⟨r,rfl,h⟩:=h;simpa [gen_iff,execOp,hop,Out,hx,hy,binOp,Op.intArith,eqGuard_at_int] using h
    ·obtain ⟨hn,r,rfl,h⟩:=h;simpa [gen_iff,execOp,hop,Out,hx,hy,binOp,Op.intDiv,hn,eqGuard_at_int] using h
    ·obtain ⟨hn,h⟩:=h;simpa [gen_iff,execOp,hop,Out,hx,hy,binOp,Op.intDiv,hn,eqGuard_at_int] using h
    ·simpa [gen_iff,execOp,hop,Out,hx,hy,binOp,Op.intCmp,eqGuard_at_int] using h
    ·simpa [gen_iff,execOp,hop,Out,hx,hy,binOp,Op.intCmp,eqGuard_at_int] using h
    ·simpa [gen_iff,execOp,hop,Out,hx,hy,binOp,Op.intCmp,eqGuard_at_int] using h
    ·simpa [gen_iff,execOp,hop,Out,hx,hy,binOp,Op.intCmp,eqGuard_at_int] using h
    ·simpa [gen_iff,execOp,hop,Out,hx,hy,binOp,Op.intCmp,eqGuard_at_int] using h
    ·simpa [gen_iff,execOp,hop,Out,hx,hy,binOp,Op.intCmp,eqGuard_at_int] using h
    ·exact h
  ·rename_i a b hx hy
   split at h
   ·rename_i ht
    have ht:=hT.kind.2.1 ht
    refine gen_bin hop (by rw [hx];exact eqGuard_at_bool ..) ?_ h
    rw [hx,hy]
    exact (run_eql_of (eqIn_bool 9999 ht a b) (fun op=>by cases op<;>rfl)).1
   ·rename_i ht
    have ht:=hT.kind.2.1 ht
    refine gen_bin hop (by rw [hx];exact eqGuard_at_bool ..) ?_ h
    rw [hx,hy]
    exact (run_eql_of (eqIn_bool 9999 ht a b) (fun op=>by cases op<;>rfl)).2
   ·exact h
  ·rename_i a b hx hy
   split at h
   ·rename_i e ht
    have ht:=hT.kind.2.2.2.1 _ ht
    unfold xnil at h
    split at h
    all_goals first
     |exact h
     |(refine gen_bin hop (by rw [hx];exact eqGuard_at_pointer ..) ?_ h
       rw [hx,hy]
       first
        |exact (run_eql_of (eqIn_ptr 9999 ht _) (fun op=>by cases op<;>rfl)).1
        |exact (run_eql_of (eqIn_ptr 9999 ht _) (fun op=>by cases op<;>rfl)).2)
   ·exact h
  ·rename_i a b hx hy
   split at h
   ·rename_i k e ht
    have ht:=hT.kind.2.2.2.2.2 _ _ ht
    unfold xnil at h
    split at h
    all_goals first
     |exact h
     |(refine gen_bin hop (by rw [hx];exact eqGuard_at_map ..) ?_ h
       rw [hx,hy]
       first
        |exact (run_eql_of (eqIn_map 9999 ht _) (fun op=>by cases op<;>rfl)).1
        |exact (run_eql_of (eqIn_map 9999 ht _) (fun op=>by cases op<;>rfl)).2)
   ·exact h
  ·exact h
 ·rename_i src dst x hop
  split at h
  ·rename_i d k k' n hs hd hx
   have hs:=hT.kind.1 _ hs
   have hd:=hT.kind.1 _ hd
   obtain ⟨r,rfl,h⟩:=h
   simpa [gen_iff,execOp,hop,Out,hx,convert,run_underlying hs,run_underlying hd,Conv.intToInt] using h
  ·exact h
 ·rename_i t x hop
  split at h
  ·rename_i b hb
   simpa [gen_iff,execOp,hop,Out,hb,Op.unary] using h
  ·exact h
 ·rename_i c hop
  split at h
  ·rename_i x hc
   split at h
   ·rename_i f first cap hx
    split at h
    ·rename_i u hu
     ·obtain ⟨fn,body,hfn,hbody,hname⟩:=hT.func hu
      have e1:(first.toList++c.args.toList.map ρ++cap.toList).toArray=first++c.args.map ρ++cap:=by
       apply Array.ext'
       simp
      rw [fargs_eq,e1] at h
      simp [gen_iff,execOp,hop,resolve,hc,hx,Deferred.ofValue,invoke,callFunc,program,Sem.run,hfn,hbody,Out,beq_eq_false_iff_ne.1 hname]
      simpa using h
    ·exact h
   ·exact h
  ·exact h
 ·exact h
structure Yl (P:Program) (l:Nat) (args:Array Value) (w:World) (k:Value→World→Prop):Prop where
 out:∃fn tmps assign body,(Instr.yield l args).run P w= .ok (.round l fn tmps assign body) w∧RoundIn Fence.wide 0 P l fn tmps assign body w fun e w'=>∃v,e= .returned v∧k v w'
def xoy (T:Tb) (P:Program) (ρ:Operand→Value) (o:Oper) (w:World) (g:Value→World→Prop):Prop:=
 match o.op with
 | .call c=>match c.callee with
  | .value x=>match ρ x with
   | .func (.yield l) first cap=>fargs (first.toList++c.args.toList.map ρ) fun a=>Yl P l a.toArray w g
   |_=>xo T P ρ o w g
  |_=>xo T P ρ o w g
 |_=>xo T P ρ o w g
structure GenR (P:Program) (ρ:Operand→Value) (o:Oper) (w:World) (k:Value→World→Prop):Prop where
 out:Gen P ρ o w k∨∃l fn tmps assign body,(∀c,o.op≠ .defer c)∧(execOp ρ o).run P w= .ok (.round l fn tmps assign body) w∧RoundIn Fence.wide 0 P l fn tmps assign body w fun e w'=>∃v,e= .returned v∧k v w'
theorem xoy_sound {P:Program} {T:Tb} (hT:TabOk P T) {ρ:Operand→Value} {o:Oper} {w:World} {g:Value→World→Prop} (h:xoy T P ρ o w g):GenR P ρ o w g:=by
 unfold xoy at h
 split at h
 ·rename_i c hop
  split at h
  ·rename_i x hx
   split at h
   ·rename_i l first cap hv
    rw [fargs_eq] at h
    obtain ⟨fn,tmps,assign,body,hr,hR⟩:=h.out
    refine ⟨.inr ⟨l,fn,tmps,assign,body,by simp [hop],?_,hR⟩⟩
    have e1:(first.toList++c.args.toList.map ρ).toArray=first++c.args.map ρ:=by
     apply Array.ext'
     simp
    rw [e1] at hr
    obtain ⟨callee,cargs,argTypes⟩:=c
    simp only at hx
    subst hx
    have hr':(Instr.yield l (first++cargs.map ρ)).run P w= .ok (.round l fn tmps assign body) w:=hr
    simp [execOp,hop,resolve,hv,invoke,go_sem,hr']
   ·exact ⟨.inl (xo_sound hT h)⟩
  ·exact ⟨.inl (xo_sound hT h)⟩
 ·exact ⟨.inl (xo_sound hT h)⟩
def gslot (ops:Array Oper) (j:Nat):Option Nat:=match ops[j]? with|some o=>o.dst|none=>none
def xlF (T:Tb) (P:Program) (n:Nat) (ops:Array Oper) (o:Oper) (ih:Env→World→Prop) (e:Env) (w:World):Prop:=
 match o.guard with
  |none=>xoy T P (ev n e) o w fun v w'=>fcv v fun v=>ih (eup e o.dst v) w'
  |some (j,want)=>match gslot ops j with
   |none=>ih (eup e o.dst undef) w
   |some d=>match ev n e (.tmp d) with
    | .bool t=>
     match want with
     |true=>Br t (xoy T P (ev n (eup e (some d) (.bool true))) o w fun v w'=>fcv v fun v=>ih (eup (eup e (some d) (.bool true)) o.dst v) w') (ih (eup (eup e (some d) (.bool false)) o.dst undef) w)
     |false=>Br t (ih (eup (eup e (some d) (.bool true)) o.dst undef) w) (xoy T P (ev n (eup e (some d) (.bool false))) o w fun v w'=>fcv v fun v=>ih (eup (eup e (some d) (.bool false)) o.dst v) w')
    | .tuple _=>ih (eup e o.dst undef) w
    |_=>False
def xl (T:Tb) (P:Program) (n:Nat) (ops:Array Oper) (K:Env→World→Prop) (l:List Oper):Env→World→Prop:=
 List.rec (motive:=fun _=>Env→World→Prop) K (fun o _ ih=>xlF T P n ops o ih) l
theorem xl_cons {T:Tb} {P:Program} {n:Nat} {ops:Array Oper} {K:Env→World→Prop} {o:Oper} {rest:List Oper} {e:Env} {w:World}:xl T P n ops K (o::rest) e w=xlF T P n ops o (xl T P n ops K rest) e w:=rfl
def QX (n:Nat) (K:Exit→Env→World→Prop):Exit→Act→World→Prop:=fun ex a w=>∃e,Rel n e a∧K ex e w
theorem gen_wp {P:Program} {n:Nat} {e:Env} {a:Act} {w:World} {o:Oper} {Q:Exit→Act→World→Prop} {next:Act→World→Prop} {k:Value→World→Prop} (hr:Rel n e a) (h:Gen P (ev n e) o w k)
  (hk:∀v w',k v w'→next (a.put o.dst v) w'):o.wp P a w next Q:=by
 replace h:=h.out
 unfold Out at h
 unfold Oper.wp
 rw [hr.evals]
 generalize (execOp (ev n e) o).run P w=r at h ⊢
 split at h
 ·exact hk _ _ h
 ·exact hk _ _ h
 ·refine Calls.mono h.out ?_
  rintro e' w'' ⟨v,rfl,hv⟩
  exact hk _ _ hv
 ·exact h.elim
abbrev FW (r:Option Nat):Fence:={Fence.wide with round:=r}
theorem callsFW {r:Option Nat} {m:Nat} {P:Program} {f:FuncId} {args:Array Value} {w:World} {R:Ending→World→Prop} (h:Calls P f args w R):CallsIn (FW r) m P f args w R:=callsIn_wide (n:=m).2 h
theorem roundFW {r:Option Nat} {m l:Nat} {P:Program} {fn:FuncId} {tmps:Array Value} {assign body:Code} {w:World} {R:Ending→World→Prop} (h:RoundIn Fence.wide 0 P l fn tmps assign body w R):RoundIn (FW r) m P l fn tmps assign body w R:=
 ⟨trivial,fun c cs _=>h.2 c cs (room_wide _)⟩
theorem rowsFW {r:Option Nat} {m:Nat} {P:Program} {row:String} {args:Array Value} {w:World} {R:Value→World→Prop} (h:Rows P row args w R):RowsIn (FW r) m P row args w R:=fun c cs _=>
 let ⟨v,w',hr,hs⟩:=h c cs
 ⟨v,w',hr,stepsIn_wide.2 hs⟩
theorem FW_depth {r:Option Nat} {m:Nat}:(FW r).depth.isSome=true→1≤m:=fun h=>by cases h
def notDef:Op→Bool
 | .defer _=>false
 |_=>true
theorem notDef_ne {o:Op} (h:notDef o=true):∀c,o≠ .defer c:=fun c e=>by subst e;cases h
theorem semFW {r:Option Nat} {o:Oper} {ρ:Operand→Value} (h:r=none∨notDef o.op=true):o.semAt (FW r).round ρ=execOp ρ o:=by
 rcases h with rfl|h
 ·rfl
 ·exact Oper.semAt_eq _ _ _ (notDef_ne h)
theorem gen_wpIn {r:Option Nat} {P:Program} {n:Nat} {e:Env} {a:Act} {w:World} {o:Oper} {Q:Exit→Act→World→Prop} {next:Act→World→Prop} {k:Value→World→Prop} (hd:r=none∨notDef o.op=true) (hr:Rel n e a) (h:GenR P (ev n e) o w k)
  (hk:∀v w',k v w'→next (a.put o.dst v) w'):o.wpIn (FW r) 0 P a w next Q:=by
 refine ⟨fun _ _=>trivial,?_⟩
 rw [semFW hd,hr.evals]
 rcases h.out with h|⟨l,fn,tmps,assign,body,_,hrun,hR⟩
 ·replace h:=h.out
  unfold Out at h
  generalize (execOp (ev n e) o).run P w=r at h ⊢
  split at h
  ·exact hk _ _ h
  ·exact hk _ _ h
  ·refine ⟨FW_depth,callsFW (Calls.mono h.out ?_)⟩
   rintro e' w'' ⟨v,rfl,hv⟩
   exact hk _ _ hv
  ·exact h.elim
 ·rw [hrun]
  refine ⟨FW_depth,roundFW (hR.mono ?_)⟩
  rintro e' w'' ⟨v,rfl,hv⟩
  exact hk _ _ hv
theorem upon_in {r:Option Nat} {P:Program} {o:Oper} {a:Act} {w:World} {next:Act→World→Prop} {Q:Exit→Act→World→Prop} (hd:r=none∨notDef o.op=true) (hO:∀a w,¬Q .outgrown a w) (h:o.wp P a w next Q):o.wpIn (FW r) 0 P a w next Q:=by
 refine ⟨fun _ _=>trivial,?_⟩
 rw [semFW hd]
 unfold Oper.wp at h
 generalize (execOp a.eval o).run P w=x at h ⊢
 cases x with
 |ok nx w'=>
  cases nx<;>simp only [Oper.upon] at h<;>first
   |exact h
   |exact ⟨FW_depth,callsFW (Calls.mono h fun e w'' he=>by cases e<;>first|exact he|exact he)⟩
   |exact ⟨FW_depth,rowsFW h⟩
   |exact h.elim
 |halt x w'=>cases x<;>simp only [Oper.upon] at h<;>first|exact h|exact h.elim
theorem wpAny_in {r:Option Nat} {P:Program} {md:Region.Mode} {ops:Array Oper} {Q:Exit→Act→World→Prop} (hd:∀o∈ops.toList,r=none∨notDef o.op=true) (hO:∀a w,¬Q .outgrown a w):∀(fuel:Nat) (listed:Array Bool) (a:Act) (w:World),wpAny P md ops Q fuel listed a w→wpAnyIn (FW r) 0 P md ops Q fuel listed a w
 |0,_,_,_,h=>h
 |fuel+1,listed,a,w,h=>by
  refine ⟨h.1,fun i hi=>?_⟩
  have h1:=wpOp_mono (fun a w=>wpAny_in hd hO fuel _ a w) (h.2 i hi)
  unfold wpOp at h1
  unfold wpOpIn
  cases ho:ops[i]? with
  |none=>rw [ho] at h1;exact h1
  |some o=>
   rw [ho] at h1
   simp only at h1 ⊢
   split
   ·rename_i hw
    rw [if_pos hw] at h1
    have hm:o∈ops.toList:=List.mem_of_getElem? (i:=i) (by simpa using ho)
    rcases h1 with h1|⟨_,_,_,h1⟩
    ·exact upon_in (hd o hm) hO h1
    ·exact (hO _ _ h1).elim
   ·rename_i hw
    rw [if_neg hw] at h1
    exact ⟨fun _ _=>trivial,h1⟩
noncomputable def flat (c:Code):Bool:=
 Code.rec (motive:=fun _=>Bool) true (fun _ ops _=>ops.toList.all fun o=>notDef o.op) (fun _ _ a b=>a && b) (fun _ _ _ a b=>a && b) (fun _ _ a=>a) (fun _ a=>a) (fun _ _ _ _ _ _=>false) (fun _=>true) (fun _ a=>a) (fun _=>true) (fun _=>false) true (fun _=>false) c
theorem region_in {r:Option Nat} {P:Program} {id:Nat} {ops:Array Oper} {Q:Exit→Act→World→Prop} {a:Act} {w:World} (hd:r=none∨flat (.region id ops true)=true) (hO:∀a w,¬Q .outgrown a w) (hm:P.follows .mixedOrders=true)
  (h:wpAny P .any ops Q ops.size (Array.replicate ops.size false) a {w with drawn:=w.drawn+1}):(Code.region id ops true).wpIn (FW r) 0 P Q a w:=
 wpIn_region_any hm (wpAny_in (fun o ho=>hd.imp (fun h=>h) fun h1=>List.all_eq_true.1 (show (ops.toList.all fun o=>notDef o.op)=true from h1) o ho) hO _ _ _ _ h)
theorem yielded_ev {n:Nat} {e:Env} {a:Act} (hr:Rel n e a) {ops:Array Oper} {j d:Nat} (hg:gslot ops j=some d):yielded ops a.tmps j=match ev n e (.tmp d) with| .bool b=>some b|_=>none:=by
 have hd:(ops[j]?).bind (·.dst)=some d:=by
  unfold gslot at hg
  cases ho:ops[j]? with
  |none=>rw [ho] at hg;cases hg
  |some o=>rw [ho] at hg;simpa using hg
 unfold yielded
 rw [hd]
 simp only [Option.bind_some]
 by_cases hdn:d < n
 ·have h1:a.tmps[d]? =some (e.f d):=by
   have hs:d < a.tmps.size:=by rw [hr.2.1];exact hdn
   have:=hr.2.2 d hdn
   simp [hs] at this ⊢
   exact this
  simp only [h1,ev,show Nat.blt d n=true by rw [Nat.blt_eq];exact hdn,cond_true]
  cases e.f d<;>rfl
 ·have h1:a.tmps[d]? =none:=by
   have:a.tmps.size≤d:=by rw [hr.2.1];exact Nat.le_of_not_lt hdn
   simp [this]
  have h2:Nat.blt d n=false:=by rw [←Bool.not_eq_true,Nat.blt_eq];exact hdn
  simp only [h1,ev,h2,cond_false,undef]
theorem xl_sound {P:Program} {T:Tb} (hT:TabOk P T) {n:Nat} {ops:Array Oper} {K:Exit→Env→World→Prop} {r:Option Nat}:∀(l:List Oper) (e:Env) (a:Act) (w:World),(∀o∈l,r=none∨notDef o.op=true)→Rel n e a→xl T P n ops (fun e w=>K .normal e w) l e w→wpListIn (FW r) 0 P ops (QX n K) l a w
 | [],e,a,w,_,hr,h=>⟨e,hr,h⟩
 |o::rest,e,a,w,hd,hr,h=>by
  have hd0:=hd o (List.mem_cons_self ..)
  have hdr:∀o∈rest,r=none∨notDef o.op=true:=fun o ho=>hd o (List.mem_cons_of_mem _ ho)
  rw [xl_cons] at h
  unfold xlF at h
  split at h
  ·rename_i hg
   refine wpListIn_plain hg fun K' hK'=>?_
   exact gen_wpIn hd0 hr (xoy_sound hT h) fun v w' hx=>hK' _ _ (xl_sound hT rest _ _ _ hdr (hr.put _ _) (by rw [fcv_eq] at hx;exact hx))
  ·rename_i j want hg
   have skip:∀e',Rel n e' a→Region.wanted o (yielded ops a.tmps)=false→xl T P n ops (fun e w=>K .normal e w) rest (eup e' o.dst undef) w→wpListIn (FW r) 0 P ops (QX n K) (o::rest) a w:=fun e' hr' hw hx=>by
    unfold wpListIn
    rw [if_neg (by rw [hw];simp)]
    exact ⟨fun _ _=>trivial,xl_sound hT rest _ _ _ hdr (hr'.put _ _) hx⟩
   have run:∀e',Rel n e' a→Region.wanted o (yielded ops a.tmps)=true→xoy T P (ev n e') o w (fun v w'=>fcv v fun v=>xl T P n ops (fun e w=>K .normal e w) rest (eup e' o.dst v) w')→wpListIn (FW r) 0 P ops (QX n K) (o::rest) a w:=fun e' hr' hw hx=>by
    unfold wpListIn
    rw [if_pos hw]
    exact gen_wpIn hd0 hr' (xoy_sound hT hx) fun v w' hy=>xl_sound hT rest _ _ _ hdr (hr'.put _ _) (by rw [fcv_eq] at hy;exact hy)
   split at h
   ·rename_i hs
    refine skip e hr ?_ h
    have:(ops[j]?).bind (·.dst)=none:=by
     unfold gslot at hs
     cases ho:ops[j]? with
     |none=>rfl
     |some o=>rw [ho] at hs;simpa using hs
    simp [Region.wanted,hg,yielded,this]
   ·rename_i d hs
    have hy:=yielded_ev hr hs
    split at h
    ·rename_i t ht
     rw [ht] at hy
     have rt:t=true→Rel n (eup e (some d) (.bool true)) a:=fun e1=>hr.same (by rw [ht,e1])
     have rf:t=false→Rel n (eup e (some d) (.bool false)) a:=fun e1=>hr.same (by rw [ht,e1])
     split at h
     ·cases t with
      |true=>exact run _ (rt rfl) (by simp [Region.wanted,hg,hy]) (h.1 rfl)
      |false=>exact skip _ (rf rfl) (by simp [Region.wanted,hg,hy]) (h.2 rfl)
     ·cases t with
      |true=>exact skip _ (rt rfl) (by simp [Region.wanted,hg,hy]) (h.1 rfl)
      |false=>exact run _ (rf rfl) (by simp [Region.wanted,hg,hy]) (h.2 rfl)
    ·rename_i vs ht
     rw [ht] at hy
     exact skip e hr (by simp [Region.wanted,hg,hy]) h
    ·exact h.elim
def xl0F (T:Tb) (P:Program) (n:Nat) (ops:Array Oper) (o:Oper) (ih:Env→World→Prop) (e:Env) (w:World):Prop:=
 match o.guard with
  |none=>xo T P (ev n e) o w fun v w'=>fcv v fun v=>ih (eup e o.dst v) w'
  |some (j,want)=>match gslot ops j with
   |none=>ih (eup e o.dst undef) w
   |some d=>match ev n e (.tmp d) with
    | .bool t=>
     match want with
     |true=>Br t (xo T P (ev n (eup e (some d) (.bool true))) o w fun v w'=>fcv v fun v=>ih (eup (eup e (some d) (.bool true)) o.dst v) w') (ih (eup (eup e (some d) (.bool false)) o.dst undef) w)
     |false=>Br t (ih (eup (eup e (some d) (.bool true)) o.dst undef) w) (xo T P (ev n (eup e (some d) (.bool false))) o w fun v w'=>fcv v fun v=>ih (eup (eup e (some d) (.bool false)) o.dst v) w')
    | .tuple _=>ih (eup e o.dst undef) w
    |_=>False
def xl0 (T:Tb) (P:Program) (n:Nat) (ops:Array Oper) (K:Env→World→Prop) (l:List Oper):Env→World→Prop:=
 List.rec (motive:=fun _=>Env→World→Prop) K (fun o _ ih=>xl0F T P n ops o ih) l
theorem xl0_cons {T:Tb} {P:Program} {n:Nat} {ops:Array Oper} {K:Env→World→Prop} {o:Oper} {rest:List Oper} {e:Env} {w:World}:xl0 T P n ops K (o::rest) e w=xl0F T P n ops o (xl0 T P n ops K rest) e w:=rfl
theorem xl0_sound {P:Program} {T:Tb} (hT:TabOk P T) {n:Nat} {ops:Array Oper} {K:Exit→Env→World→Prop}:∀(l:List Oper) (e:Env) (a:Act) (w:World),Rel n e a→xl0 T P n ops (fun e w=>K .normal e w) l e w→wpList P ops (QX n K) l a w
 | [],e,a,w,hr,h=>⟨e,hr,h⟩
 |o::rest,e,a,w,hr,h=>by
  rw [xl0_cons] at h
  unfold xl0F at h
  split at h
  ·rename_i hg
   refine wpList_plain hg fun K' hK'=>?_
   exact gen_wp hr (xo_sound hT h) fun v w' hx=>hK' _ _ (xl0_sound hT rest _ _ _ (hr.put _ _) (by rw [fcv_eq] at hx;exact hx))
  ·rename_i j want hg
   have skip:∀e',Rel n e' a→Region.wanted o (yielded ops a.tmps)=false→xl0 T P n ops (fun e w=>K .normal e w) rest (eup e' o.dst undef) w→wpList P ops (QX n K) (o::rest) a w:=fun e' hr' hw hx=>by
    unfold wpList
    rw [if_neg (by rw [hw];simp)]
    exact xl0_sound hT rest _ _ _ (hr'.put _ _) hx
   have run:∀e',Rel n e' a→Region.wanted o (yielded ops a.tmps)=true→xo T P (ev n e') o w (fun v w'=>fcv v fun v=>xl0 T P n ops (fun e w=>K .normal e w) rest (eup e' o.dst v) w')→wpList P ops (QX n K) (o::rest) a w:=fun e' hr' hw hx=>by
    unfold wpList
    rw [if_pos hw]
    exact .inl (gen_wp hr' (xo_sound hT hx) fun v w' hy=>xl0_sound hT rest _ _ _ (hr'.put _ _) (by rw [fcv_eq] at hy;exact hy))
   split at h
   ·rename_i hs
    refine skip e hr ?_ h
    have:(ops[j]?).bind (·.dst)=none:=by
     unfold gslot at hs
     cases ho:ops[j]? with
     |none=>rfl
     |some o=>rw [ho] at hs;simpa using hs
    simp [Region.wanted,hg,yielded,this]
   ·rename_i d hs
    have hy:=yielded_ev hr hs
    split at h
    ·rename_i t ht
     rw [ht] at hy
     have rt:t=true→Rel n (eup e (some d) (.bool true)) a:=fun e1=>hr.same (by rw [ht,e1])
     have rf:t=false→Rel n (eup e (some d) (.bool false)) a:=fun e1=>hr.same (by rw [ht,e1])
     split at h
     ·cases t with
      |true=>exact run _ (rt rfl) (by simp [Region.wanted,hg,hy]) (h.1 rfl)
      |false=>exact skip _ (rf rfl) (by simp [Region.wanted,hg,hy]) (h.2 rfl)
     ·cases t with
      |true=>exact skip _ (rt rfl) (by simp [Region.wanted,hg,hy]) (h.1 rfl)
      |false=>exact run _ (rf rfl) (by simp [Region.wanted,hg,hy]) (h.2 rfl)
    ·rename_i vs ht
     rw [ht] at hy
     exact skip e hr (by simp [Region.wanted,hg,hy]) h
    ·exact h.elim
theorem wpIn_scope_straight {F:Fence} {m:Nat} {P:Program} {Q:Exit→Act→World→Prop} {a:Act} {w:World} {c:Code} (h:c.wpIn F m P (Exit.noGoto Q) a w):(Code.scope c).wpIn F m P Q a w:=by
 intro b k cs hro hb hr
 have h0:(lone (b.atR a (.code (.scope c)::k)) cs w).fenced P F:=fenced_calm hb hr rfl
 have s0:step P (lone (b.atR a (.code (.scope c)::k)) cs w)= .next (lone (b.atR a (.code c:: .inScope c::k)) cs w):=step_lone_go (by simp [stepG,stepG.exec,Frame.atR])
 have s1:∀a w,step P (lone (b.atR a (.inScope c::k)) cs w)= .next (lone (b.atR a k) cs w):=fun a w=>step_lone_go (by simp [stepG,stepG.exec,Frame.atR])
 obtain ⟨e,a₁,w₁,hq,harr⟩:=h b (.inScope c::k) cs hro hb hr
 cases e with
 |normal=>exact ⟨.normal,a₁,w₁,hq, .head h0 s0 (StepsIn.trans harr (.one (fenced_calm hb hr rfl) (s1 _ _)))⟩
 |exit id=>
  have hx:exitTo id (.inScope c::k)=exitTo id k:=by simp [exitTo]
  exact ⟨.exit id,a₁,w₁,hq,fun k' hk=>.head h0 s0 (harr.1 k' (by rw [hx];exact hk)),fun hr' hk=>let ⟨k₁,h1,h2⟩:=harr.2 hr' (by rw [hx];exact hk);⟨k₁,h1, .head h0 s0 h2⟩⟩
 |goto l=>exact hq.elim
 |ret=>exact ⟨_,a₁,w₁,hq, .of_steps (.one h0 s0) harr⟩
 |panic ch=>exact ⟨_,a₁,w₁,hq, .of_steps (.one h0 s0) harr⟩
 |outgrown=>exact ⟨_,a₁,w₁,hq, .of_steps (.one h0 s0) harr⟩
structure Lp (body:Env→World→(Env→World→Prop)→Prop) (e:Env) (w:World):Prop where
 out:∃I:Env→World→Nat→Prop,(∃n,I e w n)∧∀e w n,I e w n→body e w fun e' w'=>∃m,m < n∧I e' w' m
structure Dr (P:Program) (n:Nat) (c:Code) (K:Exit→Env→World→Prop) (e:Env) (w:World):Prop where
 out:∀r a,(r=none∨flat c=true)→Rel n e a→c.wpIn (FW r) 0 P (QX n K) a w
abbrev XC:=(Exit→Env→World→Prop)→Env→World→Prop
structure Rf (P:Program) (n:Nat) (g:Operand) (ps:Array Tmp) (assign body:Code) (xa x:XC) (K:Exit→Env→World→Prop) (e:Env) (w:World):Prop where
 out:(∀K e a w l,flat assign=true→Rel n e a→xa K e w→assign.wpIn (FW (some l)) 0 P (QX n K) a w)→(∀K e a w l,flat body=true→Rel n e a→x K e w→body.wpIn (FW (some l)) 0 P (QX n K) a w)→∀a,Rel n e a→(Code.rangeFunc g ps assign body).wpIn (FW none) 0 P (QX n K) a w
def xcCond (n:Nat) (c:Operand) (xa xb:XC) (K:Exit→Env→World→Prop) (e:Env) (w:World):Prop:=match ev n e c with
  | .bool t=>match c with
   | .tmp d=>Br t (xa K (eup e (some d) (.bool true)) w) (xb K (eup e (some d) (.bool false)) w)
   |_=>Br t (xa K e w) (xb K e w)
  |_=>False
def xc (T:Tb) (P:Program) (n:Nat) (c:Code):XC:=
 Code.rec (motive:=fun _=>XC)
  (fun K e w=>K .normal e w)
  (fun id ops draw K e w=>match draw with
   |false=>xl T P n ops (fun e w=>K .normal e w) ops.toList e w
   |true=>Dr P n (.region id ops true) K e w)
  (fun _ _ xa xb K e w=>xa (fun ex e w=>match ex with| .normal=>xb K e w|ex=>K ex e w) e w)
  (fun c _ _ xa xb K e w=>xcCond n c xa xb K e w)
  (fun id _ xb K e w=>xb (fun ex e w=>match ex with| .exit i=>bif Nat.beq i id then K .normal e w else K (.exit i) e w|ex=>K ex e w) e w)
  (fun _ xb K e w=>Lp (fun e w next=>xb (fun ex e w=>match ex with| .normal=>next e w|ex=>K ex e w) e w) e w)
  (fun f params assign body xa xb K e w=>Rf P n f params assign body xa xb K e w)
  (fun id K e w=>K (.exit id) e w)
  (fun _ xb K e w=>xb (fun ex e w=>match ex with| .goto _=>False|ex=>K ex e w) e w)
  (fun _ K e w=>K .normal e w)
  (fun l K e w=>Dr P n (.goto l) K e w)
  (fun K e w=>K .ret e w)
  (fun why K e w=>Dr P n (.refuse why) K e w)
  c
theorem flat_seq {x y:Code} (h:flat (.seq x y)=true):flat x=true∧flat y=true:=by
 have h:(flat x && flat y)=true:=h
 simpa using h
theorem flat_cond {c:Operand} {x y:Code} (h:flat (.cond c x y)=true):flat x=true∧flat y=true:=by
 have h:(flat x && flat y)=true:=h
 simpa using h
theorem xc_sound {P:Program} {T:Tb} (hT:TabOk P T) {n:Nat}:∀(c:Code) (r:Option Nat) (K:Exit→Env→World→Prop) (e:Env) (a:Act) (w:World),(r=none∨flat c=true)→Rel n e a→xc T P n c K e w→c.wpIn (FW r) 0 P (QX n K) a w:=by
 intro c
 induction c with
 |skip=>exact fun r K e a w hf hr h=>wpIn_skip ⟨e,hr,h⟩
 |label l=>exact fun r K e a w hf hr h=>wpIn_label ⟨e,hr,h⟩
 |region id ops draw=>
  intro r K e a w hf hr h
  cases draw with
  |true=>exact Dr.out h r a hf hr
  |false=>exact wpIn_region_list (xl_sound hT _ _ _ _ (fun o ho=>hf.imp (fun h=>h) fun h1=>List.all_eq_true.1 (show (ops.toList.all fun o=>notDef o.op)=true from h1) o ho) hr h)
 |seq x y ihx ihy=>
  intro r K e a w hf hr h
  refine wpIn_seq (Code.wpIn_mono ?_ (ihx r _ e a w (hf.imp (fun h=>h) fun h=>(flat_seq h).1) hr h))
  rintro ex a' w' ⟨e',hr',hk⟩
  cases ex<;>first
   |exact ihy r _ _ _ _ (hf.imp (fun h=>h) fun h=>(flat_seq h).2) hr' hk
   |exact ⟨e',hr',hk⟩
 |cond c x y ihx ihy=>
  intro r K e a w hf hr h
  replace h:xcCond n c (xc T P n x) (xc T P n y) K e w:=h
  have hfx:r=none∨flat x=true:=hf.imp (fun h=>h) fun h=>(flat_cond h).1
  have hfy:r=none∨flat y=true:=hf.imp (fun h=>h) fun h=>(flat_cond h).2
  unfold xcCond at h
  split at h
  ·rename_i t ht
   have hev:a.eval c= .bool t:=by rw [hr.eval];exact ht
   refine wpIn_cond_split hev (fun e1=>?_) (fun e1=>?_)
   ·split at h
    ·exact ihx r _ _ _ _ hfx (hr.same (by rw [ht,e1])) (h.1 e1)
    ·exact ihx r _ _ _ _ hfx hr (h.1 e1)
   ·split at h
    ·exact ihy r _ _ _ _ hfy (hr.same (by rw [ht,e1])) (h.2 e1)
    ·exact ihy r _ _ _ _ hfy hr (h.2 e1)
  ·exact h.elim
 |block id body ih=>
  intro r K e a w hf hr h
  refine wpIn_block (Code.wpIn_mono ?_ (ih r _ e a w hf hr h))
  rintro ex a' w' ⟨e',hr',hk⟩
  cases ex<;>(try exact ⟨e',hr',hk⟩)
  rename_i i
  simp only [Exit.inBlock]
  by_cases hi:i=id
  ·rw [if_pos hi]
   subst hi
   simp only [Nat.beq_refl,cond_true] at hk
   exact ⟨e',hr',hk⟩
  ·rw [if_neg hi]
   have hb:Nat.beq i id=false:=by cases hb:Nat.beq i id with|false=>rfl|true=>exact absurd (Nat.eq_of_beq_eq_true hb) hi
   simp only [hb,cond_false] at hk
   exact ⟨e',hr',hk⟩
 |loop body ih=>
  intro r K e a w hf hr h
  obtain ⟨I,⟨m0,h0⟩,hstep⟩:=h
  intro b k cs hro hb hroom
  have key:∀m e a w,Rel n e a→I e w m→∃ex a' w',QX n K ex a' w'∧ArrivesIn (Machine.fenced P (FW r)) P (lone (b.atR a (.code body:: .inLoop body::k)) cs w) b k cs ex a' w':=by
   intro m
   induction m using Nat.strongRecOn with
   |_ m ihm=>
    intro e a w hr hI
    obtain ⟨ex,a₁,w₁,⟨e₁,hr₁,hq⟩,harr⟩:=ih r _ e a w hf hr (hstep e w m hI) b (.inLoop body::k) cs hro hb hroom
    cases ex with
    |normal=>
     obtain ⟨m',hlt,hI₁⟩:=hq
     obtain ⟨ex₂,a₂,w₂,hq₂,harr₂⟩:=ihm m' hlt e₁ a₁ w₁ hr₁ hI₁
     exact ⟨ex₂,a₂,w₂,hq₂, .of_steps (StepsIn.trans harr (.one (fenced_calm hb hroom rfl) stepR_inLoop)) harr₂⟩
    |exit id=>exact ⟨_,a₁,w₁,⟨e₁,hr₁,hq⟩, .pass (x:= .inLoop body) rfl (fun _ _=>.inl (by simp)) harr⟩
    |goto l=>exact ⟨_,a₁,w₁,⟨e₁,hr₁,hq⟩, .pass (x:= .inLoop body) rfl (fun _ _=>.inl (by simp)) harr⟩
    |ret=>exact ⟨_,a₁,w₁,⟨e₁,hr₁,hq⟩, .pass (x:= .inLoop body) rfl (fun _ _=>.inl (by simp)) harr⟩
    |panic ch=>exact ⟨_,a₁,w₁,⟨e₁,hr₁,hq⟩, .pass (x:= .inLoop body) rfl (fun _ _=>.inl (by simp)) harr⟩
    |outgrown=>exact ⟨_,a₁,w₁,⟨e₁,hr₁,hq⟩, .pass (x:= .inLoop body) rfl (fun _ _=>.inl (by simp)) harr⟩
  obtain ⟨ex,a',w',hq,harr⟩:=key m0 e a w hr h0
  exact ⟨ex,a',w',hq, .of_steps (.one (fenced_calm hb hroom rfl) stepR_loop) harr⟩
 |rangeFunc f params assign body iha ihb=>
  intro r K e a w hf hr h
  rcases hf with rfl|hf
  ·exact Rf.out h (fun K e a w l hfl hr hx=>iha (some l) K e a w (.inr hfl) hr hx) (fun K e a w l hfl hr hx=>ihb (some l) K e a w (.inr hfl) hr hx) a hr
  ·cases hf
 |exit id=>exact fun r K e a w hf hr h=>wpIn_exit ⟨e,hr,h⟩
 |scope body ih=>
  intro r K e a w hf hr h
  refine wpIn_scope_straight (Code.wpIn_mono ?_ (ih r _ e a w hf hr h))
  rintro ex a' w' ⟨e',hr',hk⟩
  cases ex<;>first
   |exact ⟨e',hr',hk⟩
   |exact hk
 |goto l=>exact fun r K e a w hf hr h=>Dr.out h r a hf hr
 |ret=>exact fun r K e a w hf hr h=>wpIn_ret ⟨e,hr,h⟩
 |refuse why=>exact fun r K e a w hf hr h=>Dr.out h r a hf hr
def rs1 (T:Tb) (w:World):List ResultVar→Env→Nat→(List Value→Prop)→Prop
 | [],_,_,k=>k []
 | .tmp t::r,e,n,k=>rs1 T w r e n fun vs=>k (ev n e (.tmp t)::vs)
 | .cell a t::r,e,n,k=>match ev n e (.tmp a) with
  | .pointer (some ad)=>match layT T t with
   |some (false,_)=>Ld w ad fun v=>rs1 T w r e n fun vs=>k (v::vs)
   |some (true,m)=>LdN w ad m fun v=>rs1 T w r e n fun vs=>k (v::vs)
   |none=>False
  |_=>False
def oneOf (vs:List Value):Value:=match vs with| [v]=>v|vs=>.tuple vs.toArray
structure Ps (R:Ending→World→Prop) (v:Value) (w:World):Prop where
 out:R (.returned v) w
structure Td (w:World) (D:Nat) (k:World→Prop):Prop where
 out:w.heap[D]? =some (.deferred (some []))∧k (w.putObj D (.deferred none))
def tds (l:List Nat) (w:World) (k:World→Prop):Prop:=
 List.rec (motive:=fun _=>World→Prop) (fun w=>k w) (fun D _ ih w=>Td w D ih) l w
def fpost (T:Tb) (rs:List ResultVar) (n:Nat) (R:Ending→World→Prop):Exit→Env→World→Prop
 | .normal,e,w| .ret,e,w=>tds e.ds w fun w=>rs1 T w rs e n fun vs=>Ps R (oneOf vs) w
 |_,_,_=>False
def env0 (args:List Value):Env:=⟨fun i=>(args[i]?).getD undef, []⟩
def resM (a:Act):ResultVar→Sem Value
 | .tmp t=>pure (a.tmps.getD t undef)
 | .cell x t=>do loadVar t (←asAddr (a.tmps.getD x undef))
theorem rs1_sound {P:Program} {T:Tb} (hT:TabOk P T) {w:World} {e:Env} {n:Nat} {a:Act} (hr:Rel n e a):∀(rs:List ResultVar) (k:List Value→Prop),rs1 T w rs e n k→∃vs,k vs∧(rs.mapM (resM a)).run P w= .ok vs w
 | [],k,h=>⟨[],h,by simp⟩
 | .tmp t::r,k,h=>by
  obtain ⟨vs,hk,hm⟩:=rs1_sound hT hr r _ h
  have he:=hr.eval (.tmp t)
  simp only [Act.eval] at he
  refine ⟨_,hk,?_⟩
  have h1:(resM a (.tmp t)).run P w= .ok (ev n e (.tmp t)) w:=by simp only [resM,he,Sem.run_pure]
  simp only [List.mapM_cons,Sem.run_bind,h1,Result.andThen_ok,hm,Sem.run_pure]
 | .cell x t::r,k,h=>by
  have he:=hr.eval (.tmp x)
  simp only [Act.eval] at he
  unfold rs1 at h
  split at h
  ·rename_i ad ha
   rw [ha] at he
   split at h
   ·rename_i m hl
    have hl:=hT.lay hl
    obtain ⟨h1,h2⟩:=run_isAgg (w:=w) hl
    obtain ⟨v,hv,h⟩:=h
    obtain ⟨vs,hk,hm⟩:=rs1_sound hT hr r _ h
    refine ⟨_,hk,?_⟩
    have h3:(resM a (.cell x t)).run P w= .ok v w:=by
     show ((do loadVar t (←asAddr (a.tmps.getD x undef))):Sem Value).run P w=_
     rw [he]
     simp [asAddr,loadVar,h1,load,Sem.run,hv]
    simp only [List.mapM_cons,Sem.run_bind,h3,Result.andThen_ok,hm,Sem.run_pure]
   ·rename_i m hl
    have hl:=hT.lay hl
    obtain ⟨h1,h2⟩:=run_isAgg (w:=w) hl
    obtain ⟨cs,hlen,hv,h⟩:=h
    subst hlen
    obtain ⟨vs,hk,hm⟩:=rs1_sound hT hr r _ h
    refine ⟨_,hk,?_⟩
    have h3:(resM a (.cell x t)).run P w= .ok (.agg cs.toArray) w:=by
     show ((do loadVar t (←asAddr (a.tmps.getD x undef))):Sem Value).run P w=_
     rw [he]
     simp [asAddr,loadVar,h1,h2,run_cells hv]
    simp only [List.mapM_cons,Sem.run_bind,h3,Result.andThen_ok,hm,Sem.run_pure]
   ·exact h.elim
  ·exact h.elim
theorem calls_x {P:Program} {T:Tb} (hT:TabOk P T) {f:FuncId} {fn:Func} {c:Code} {args:List Value} {w:World} {R:Ending→World→Prop} {n:Nat} {rs:Array ResultVar} (hf:P.funcs[f]? =some fn) (hn':fn.ntmps=n) (hrs:fn.results=rs) (hb:fn.body=some c)
  (hn:args.length≤n) (h:xc T P n c (fpost T rs.toList n R) (env0 args) w):Calls P f args.toArray w R:=by
 subst hn' hrs
 refine (callsIn_wide (n:=0)).1 (callsIn_of_wp_marks hf hb trivial (Code.wpIn_mono ?_ (xc_sound hT c none _ _ _ w (.inl rfl) ?_ h)))
 ·rintro ex a w' ⟨e,hr,hk⟩
  have fin:∀(ds:List Nat) (w':World),(tds ds w' fun w'=>rs1 T w' fn.results.toList e fn.ntmps fun vs=>Ps R (oneOf vs) w')→LeavesInM Fence.wide 0 P fn a.tmps R (ds.map dmark) .returning w':=by
   intro ds
   induction ds with
   |nil=>
    intro w' hk
    obtain ⟨vs,hps,hm⟩:=rs1_sound hT hr _ _ hk
    refine ⟨_,?_,hps.out⟩
    have e1:results fn a.tmps=(do let vs←fn.results.mapM (resM a);pure (if h:vs.size=1 then vs[0] else .tuple vs)):=by
     unfold results
     congr 2
    rw [e1,Array.mapM_eq_mapM_toList]
    have e2:∀vs:List Value,(if h:vs.toArray.size=1 then vs.toArray[0] else Value.tuple vs.toArray)=oneOf vs:=by
     intro vs
     match vs with
     | []=>rfl
     | [v]=>rfl
     |v::u::r=>simp [oneOf]
    simp only [Sem.run_bind,Sem.run_map,hm,Result.andThen_ok,Sem.run_pure,e2]
   |cons D ds ih=>
    intro w' hk
    obtain ⟨h1,h2⟩:=hk
    exact ⟨by simp, .inl ⟨D,_,rfl,run_takeDeferred h1,ih _ h2⟩⟩
  cases ex<;>simp only [fpost] at hk
  ·show LeavesInM Fence.wide 0 P fn a.tmps R a.defers .returning w'
   rw [hr.1]
   exact fin _ _ hk
  ·show LeavesInM Fence.wide 0 P fn a.tmps R a.defers .returning w'
   rw [hr.1]
   exact fin _ _ hk
 ·refine ⟨rfl,by simp;omega,fun i hi=>?_⟩
  simp only [env0]
  by_cases h1:i < args.length
  ·simp [h1,Array.getElem?_append]
  ·have h2:i - args.length < fn.ntmps - args.length:=by omega
   simp [Array.getElem?_append,h1,h2]
section
variable {P : Program} {w w0 : World} {A B c : Prop} {t : Bool}
theorem br_t (h:A):Br true A B:=⟨fun _=>h,fun e=>Bool.noConfusion e⟩
theorem br_f (h:B):Br false A B:=⟨fun e=>Bool.noConfusion e,fun _=>h⟩
theorem br_s (h1:t=true→A) (h2:t=false→B):Br t A B:=⟨h1,h2⟩
theorem br_1 (ht:t=true) (h:A):Br t A B:=⟨fun _=>h,fun e=>(by rw [ht] at e;cases e)⟩
theorem br_0 (ht:t=false) (h:B):Br t A B:=⟨fun e=>(by rw [ht] at e;cases e),fun _=>h⟩
theorem br_dec {p:Prop} [Decidable p] (h1:p→A) (h2:¬p→B):Br (decide p) A B:=⟨fun e=>h1 (of_decide_eq_true e),fun e=>h2 (of_decide_eq_false e)⟩
theorem br_eq {m n:Int} (h1:m=n→A) (h2:m≠n→B):Br (m==n) A B:=⟨fun e=>h1 (by simpa using e),fun e=>h2 (by simpa using e)⟩
theorem br_ne {m n:Int} (h1:m≠n→A) (h2:m=n→B):Br (m !=n) A B:=⟨fun e=>h1 (by simpa using e),fun e=>h2 (by simpa using e)⟩
theorem br_not {b:Bool} (h:Br b B A):Br (!b) A B:=⟨fun e=>h.2 (by simpa using e),fun e=>h.1 (by simpa using e)⟩
theorem cn (h1:c) (h2:A):Cn c A:=⟨h1,h2⟩
theorem ar_i64 {s:Int} {f:Int→Prop} (hs: -9223372036854775808≤s∧s≤9223372036854775807) (h:f s):Ar .i64 s f:=⟨s,IntWalk.i64_in _ hs,h⟩
theorem ar_u32 {s:Int} {f:Int→Prop} (hs:0≤s∧s≤4294967295) (h:f s):Ar .u32 s f:=⟨s,IntWalk.u32_in _ hs,h⟩
theorem ar_u64 {s:Int} {f:Int→Prop} (hs:0≤s∧s≤18446744073709551615) (h:f s):Ar .u64 s f:=⟨s,IntWalk.u64_in _ hs,h⟩
theorem ld_of {a:Addr} {v:Value} {k:Value→Prop} (h:w.cell? a=some v) (hk:k v):Ld w a k:=⟨v,h,hk⟩
theorem ldn_of {a:Addr} {n:Nat} {cs:List Value} {k:Value→Prop} (hl:cs.length=n) (h:∀(i:Nat) v,cs[i]? =some v→w.cell? (a.add i)=some v) (hk:k (.agg cs.toArray)):LdN w a n k:=⟨cs,hl,h,hk⟩
theorem cl_of {f:FuncId} {args:Array Value} {R:Ending→World→Prop} {k:Value→World→Prop} (h:Calls P f args w R) (hk:∀e w',R e w'→∃v,e= .returned v∧k v w'):Cl P f args w k:=⟨h.mono hk⟩
theorem ps_val {R:Ending→World→Prop} {v v':Value} (hv:v=v') (h:R (.returned v') w):Ps R v w:=by subst hv;exact ⟨h⟩
theorem ps_of {R:Ending→World→Prop} {v:Value} (h:R (.returned v) w):Ps R v w:=⟨h⟩
theorem gen_of {ρ:Operand→Value} {o:Oper} {k:Value→World→Prop} {r:Result Next} (h:(execOp ρ o).run P w=r) (hk:Out P k r):Gen P ρ o w k:=⟨by rw [h];exact hk⟩
theorem gen_v {ρ:Operand→Value} {o:Oper} {k:Value→World→Prop} {v:Value} {w':World} (h:(execOp ρ o).run P w= .ok (.value v) w') (hk:k v w'):Gen P ρ o w k:=gen_of h hk
theorem gen_s {ρ:Operand→Value} {o:Oper} {k:Value→World→Prop} {w':World} (h:(execOp ρ o).run P w= .ok .skip w') (hk:k undef w'):Gen P ρ o w k:=gen_of h hk
theorem lp_of {body:Env→World→(Env→World→Prop)→Prop} {e:Env} (I:Env→World→Nat→Prop) (h0:∃n,I e w n) (h:∀e w n,I e w n→body e w fun e' w'=>∃m,m < n∧I e' w' m):Lp body e w:=⟨I,h0,h⟩
theorem dr_of {n:Nat} {cd:Code} {K:Exit→Env→World→Prop} {e:Env} (h:∀r a,(r=none∨flat cd=true)→Rel n e a→cd.wpIn (FW r) 0 P (QX n K) a w):Dr P n cd K e w:=⟨h⟩
theorem br_id (h:Br t A B):Br t A B:=h
theorem ar_id {k:IntKind} {s:Int} {f:Int→Prop} (h:Ar k s f):Ar k s f:=h
theorem cn_id (h:Cn c A):Cn c A:=h
theorem ld_id {a:Addr} {k:Value→Prop} (h:Ld w a k):Ld w a k:=h
theorem ldn_id {a:Addr} {n:Nat} {k:Value→Prop} (h:LdN w a n k):LdN w a n k:=h
theorem al_id {o:Obj} {k:Nat→World→Prop} (h:Al w o k):Al w o k:=h
theorem st_id {a:Addr} {vs:List Value} {k:World→Prop} (h:St w a vs k):St w a vs k:=h
theorem gen_id {ρ:Operand→Value} {o:Oper} {k:Value→World→Prop} (h:Gen P ρ o w k):Gen P ρ o w k:=h
theorem dr_id {n:Nat} {cd:Code} {K:Exit→Env→World→Prop} {e:Env} (h:Dr P n cd K e w):Dr P n cd K e w:=h
theorem al_of {o:Obj} {k:Nat→World→Prop} (h:k w.heap.size (w.alloc o)):Al w o k:=⟨h⟩
end
def eat:List (Nat×Value)→Env→Env
 | [],e=>e
 |(d,v)::r,e=>eup (eat r e) (some d) v
theorem eat_of:∀(l:List (Nat×Value)) (e:Env),(∀p∈l,e.f p.1=p.2)→e=eat l e
 | [],e,_=>rfl
 |(d,v)::r,e,h=>by
  have ih:=eat_of r e fun p hp=>h p (by simp [hp])
  simp only [eat,eup]
  rw [←ih]
  have hf:e.f=fun i=>bif Nat.beq i d then v else e.f i:=by
   funext i
   cases hb:Nat.beq i d with
   |true=>
    have:=Nat.eq_of_beq_eq_true hb
    subst this
    exact h (i,v) (by simp)
   |false=>rfl
  rw [←hf]
structure Res where
 dom:Nat→Prop
 ok:World→Prop
 lt:∀w,ok w→∀b,dom b→b < w.heap.size
 loc:∀w w',(∀b,dom b→w'.heap[b]? =w.heap[b]?)→ok w→ok w'
def cel (b:Nat) (t:TypeId) (cs:Array Value):Res where
 dom x:=x=b
 ok w:=w.heap[b]? =some (.cells cs t)
 lt w h x hx:=by subst hx;exact heap_lt h
 loc w w' h hk:=(h b rfl).trans hk
def mapR {κ ν:Type} (enc:κ→Value) (val:ν→Value) (b:Nat) (l:List (κ×ν)):Res where
 dom x:=x=b
 ok w:=MapAt enc val w b l
 lt w h x hx:=by subst hx;exact h.lt
 loc w w' h hk:=hk.of_heap (h b rfl)
structure Hp (S:Nat→Prop) (w0 w:World) (rs:List Res):Prop where
 chg:Chg S w0 w
 ok:∀r∈rs,r.ok w
 sep:rs.Pairwise fun r r'=>∀b,r.dom b→¬r'.dom b
 own:∀r∈rs,∀b,r.dom b→S b∨w0.heap.size≤b
theorem Res.keep (r:Res) {T:Nat→Prop} {w w':World} (h:r.ok w) (hc:Chg T w w') (hn:∀b,r.dom b→¬T b):r.ok w':=
 r.loc w w' (fun b hb=>hc.block b (r.lt w h b hb) (hn b hb)) h
theorem Res.keep0 (r:Res) {w w':World} (h:r.ok w) (hc:Chg N0 w w'):r.ok w':=r.keep h hc fun _ _ x=>x
theorem mem_set {rs:List Res} {j:Nat} {r' x:Res} (h:x∈rs.set j r'):x=r'∨∃i,i≠j∧rs[i]? =some x:=by
 obtain ⟨i,hi⟩:=List.mem_iff_getElem?.1 h
 rw [List.getElem?_set] at hi
 by_cases hij:j=i
 ·subst hij
  rw [if_pos rfl] at hi
  split at hi
  ·exact .inl (Option.some.inj hi).symm
  ·cases hi
 ·rw [if_neg hij] at hi
  exact .inr ⟨i,fun e=>hij e.symm,hi⟩
section
variable {S : Nat → Prop} {w0 w w' : World} {rs : List Res} {r r' : Res} {j : Nat}
theorem Hp.start (w:World):Hp S w w []:=⟨Chg.refl _ _,by simp,by simp,by simp⟩
theorem Hp.start1 (h:r.ok w):Hp r.dom w w [r]:=⟨Chg.refl _ _,by simpa using h,by simp,fun x hx b hb=>by simp at hx;subst hx;exact .inl hb⟩
theorem Hp.get (h:Hp S w0 w rs) (hj:rs[j]? =some r):r.ok w:=h.ok r (List.mem_of_getElem? hj)
theorem Hp.keep (h:Hp S w0 w rs) (hr:r.ok w0) (hd:∀b,r.dom b→¬S b):r.ok w:=r.keep hr h.chg hd
theorem Hp.call0 (h:Hp S w0 w rs) (hc:Chg N0 w w'):Hp S w0 w' rs:=⟨h.chg.trans0 hc,fun r hr=>r.keep0 (h.ok r hr) hc,h.sep,h.own⟩
theorem Hp.new (h:Hp S w0 w rs) (hc:Chg N0 w w') (hr:r.ok w') (hd:∀b,r.dom b→w.heap.size≤b):Hp S w0 w' (r::rs):=by
 have h0:=h.call0 hc
 refine ⟨h0.chg,fun x hx=>?_,List.pairwise_cons.2 ⟨fun x hx b hb hb'=>?_,h0.sep⟩,fun x hx b hb=>?_⟩
 ·rcases List.mem_cons.1 hx with rfl|hx
  ·exact hr
  ·exact h0.ok x hx
 ·have h1:=x.lt w (h.ok x hx) b hb'
  have h2:=hd b hb
  omega
 ·rcases List.mem_cons.1 hx with rfl|hx
  ·exact .inr (Nat.le_trans h.chg.size (hd b hb))
  ·exact h0.own x hx b hb
theorem Hp.mut (h:Hp S w0 w rs) (hj:rs[j]? =some r) (hc:Chg r.dom w w') (hr:r'.ok w') (hd:∀b,r'.dom b→r.dom b∨w.heap.size≤b):Hp S w0 w' (rs.set j r'):=by
 have hm:=List.mem_of_getElem? hj
 have hne:∀i x,rs[i]? =some x→i≠j→∀b,x.dom b→¬r.dom b:=fun i x hi hij b hb hb'=>by
  obtain ⟨li,hi'⟩:=List.getElem?_eq_some_iff.1 hi
  obtain ⟨lj,hj'⟩:=List.getElem?_eq_some_iff.1 hj
  rcases Nat.lt_or_gt_of_ne hij with h1|h1
  ·have:=List.pairwise_iff_getElem.1 h.sep i j li lj h1 b (by rw [hi'];exact hb)
   rw [hj'] at this
   exact this hb'
  ·have:=List.pairwise_iff_getElem.1 h.sep j i lj li h1 b (by rw [hj'];exact hb')
   rw [hi'] at this
   exact this hb
 have own':∀b,r'.dom b→S b∨w0.heap.size≤b:=fun b hb=>by
  rcases hd b hb with h1|h1
  ·exact h.own r hm b h1
  ·exact .inr (Nat.le_trans h.chg.size h1)
 have ok':∀i x,rs[i]? =some x→i≠j→x.ok w':=fun i x hi hij=>x.keep (h.ok x (List.mem_of_getElem? hi)) hc fun b hb=>hne i x hi hij b hb
 refine ⟨?_,fun x hx=>?_,?_,fun x hx b hb=>?_⟩
 ·refine ⟨hc.os.trans h.chg.os,hc.tape.trans h.chg.tape,hc.output.trans h.chg.output,Nat.le_trans h.chg.size hc.size,fun k hk hn=>?_⟩
  refine (hc.block k (Nat.lt_of_lt_of_le hk h.chg.size) fun hh=>?_).trans (h.chg.block k hk hn)
  rcases h.own r hm k hh with h1|h1
  ·exact hn h1
  ·omega
 ·rcases mem_set hx with rfl|⟨i,hij,hi⟩
  ·exact hr
  ·exact ok' i x hi hij
 ·rw [List.pairwise_iff_getElem]
  intro i i' li li' hii b hb hb'
  rw [List.length_set] at li li'
  rw [List.getElem_set] at hb hb'
  by_cases h1:j=i
  ·rw [if_pos h1] at hb
   rw [if_neg (by omega)] at hb'
   rcases hd b hb with h2|h2
   ·exact hne i' _ (List.getElem?_eq_getElem li') (by omega) b hb' h2
   ·have:=(rs[i']).lt w (h.ok _ (List.getElem_mem li')) b hb'
    omega
  ·rw [if_neg h1] at hb
   by_cases h3:j=i'
   ·rw [if_pos h3] at hb'
    rcases hd b hb' with h2|h2
    ·exact hne i _ (List.getElem?_eq_getElem li) (by omega) b hb h2
    ·have:=(rs[i]).lt w (h.ok _ (List.getElem_mem li)) b hb
     omega
   ·rw [if_neg h3] at hb'
    exact List.pairwise_iff_getElem.1 h.sep i i' li li' hii b hb hb'
 ·rcases mem_set hx with rfl|⟨i,hij,hi⟩
  ·exact own' b hb
  ·exact h.own x (List.mem_of_getElem? hi) b hb
theorem Hp.sub {rs':List Res} (h:Hp S w0 w rs) (hs:rs'.Sublist rs):Hp S w0 w rs':=⟨h.chg,fun r hr=>h.ok r (hs.subset hr),h.sep.sublist hs,fun r hr=>h.own r (hs.subset hr)⟩
theorem Hp.tail (h:Hp S w0 w (r::rs)):Hp S w0 w rs:=h.sub (List.sublist_cons_self _ _)
theorem Hp.cel_get {b:Nat} {t:TypeId} {cs:Array Value} (h:Hp S w0 w rs) (hj:rs[j]? =some (cel b t cs)):w.heap[b]? =some (.cells cs t):=h.get hj
theorem cell_of_heap {b i:Nat} {t:TypeId} {cs:Array Value} {v:Value} {z:Nat×Nat} (h:w.heap[b]? =some (.cells cs t z)) (hc:cs[i]? =some v):w.cell? ⟨b,i,none⟩=some v:=by simp [World.cell?,h,hc]
theorem ld_cel {b i:Nat} {t:TypeId} {cs:Array Value} {v:Value} {k:Value→Prop} (h:Hp S w0 w rs) (j:Nat) (hj:rs[j]? =some (cel b t cs)) (hc:cs[i]? =some v) (hk:k v):Ld w ⟨b,i,none⟩ k:=
 ld_of (cell_of_heap (h.cel_get hj) hc) hk
def cut (cs:Array Value) (i n:Nat):List Value:=(cs.toList.drop i).take n
theorem ldn_cel {b i n:Nat} {t:TypeId} {cs:Array Value} {l:List Value} {k:Value→Prop} (h:Hp S w0 w rs) (j:Nat) (hj:rs[j]? =some (cel b t cs)) (hc:cut cs i n=l) (hl:l.length=n) (hk:k (.agg l.toArray)):LdN w ⟨b,i,none⟩ n k:=by
 subst hc
 refine ldn_of hl (fun x v hv=>?_) hk
 rw [add_plain]
 refine cell_of_heap (h.cel_get hj) ?_
 have hx:x < n:=by
  have:=(List.getElem?_eq_some_iff.1 hv).1
  rw [hl] at this
  exact this
 rw [cut,List.getElem?_take_of_lt hx,List.getElem?_drop] at hv
 simpa using hv
theorem al_cel {t:TypeId} {cs:Array Value} {k:Nat→World→Prop} (h:Hp S w0 w rs) (hk:∀b w',Hp S w0 w' (cel b t cs::rs)→k b w'):Al w (.cells cs t) k:=
 al_of (hk _ _ (h.new ((Chg.refl _ _).alloc _) (r:=cel w.heap.size t cs) (heap_alloc_new w _) fun b hb=>by have:b=w.heap.size:=hb;omega))
def lay:List Value→Nat→Array Value→Array Value
 | [],_,cs=>cs
 |v::r,i,cs=>lay r (i+1) (cs.setIfInBounds i v)
theorem setCs_heap {b:Nat} {t:TypeId}:∀(vs:List Value) (i o:Nat) (w:World) (cs:Array Value),w.heap[b]? =some (.cells cs t)→
  (setCs w ⟨b,o,none⟩ vs i).heap[b]? =some (.cells (lay vs (o+i) cs) t)∧Chg (fun x=>x=b) w (setCs w ⟨b,o,none⟩ vs i)
 | [],i,o,w,cs,h=>⟨h,Chg.refl _ _⟩
 |v::r,i,o,w,cs,h=>by
  have h1:(w.setCell (Addr.add ⟨b,o,none⟩ i) v).heap[b]? =some (.cells (cs.setIfInBounds (o+i) v) t):=by
   rw [add_plain]
   simp [World.setCell,Array.getElem?_modify,h]
  obtain ⟨h2,h3⟩:=setCs_heap r (i+1) o _ _ h1
  refine ⟨h2,Chg.seq ((Chg.refl _ w).setCell (.inr ?_) v) h3⟩
  rw [add_plain]
theorem st_cel {b i:Nat} {t:TypeId} {cs:Array Value} {vs:List Value} {k:World→Prop} (h:Hp S w0 w rs) (j:Nat) (hj:rs[j]? =some (cel b t cs)) (h1:vs.all Value.oneCell'=true) (hle':Nat.ble (i+vs.length) cs.size=true)
  (hk:∀w',Hp S w0 w' (rs.set j (cel b t (lay vs i cs)))→k w'):St w ⟨b,i,none⟩ vs k:=by
 have hle:=Nat.le_of_ble_eq_true hle'
 have h1:∀v∈vs,v.oneCell'=true:=by simpa using h1
 have hb:=h.cel_get hj
 refine ⟨h1,fun x hx=>?_,?_⟩
 ·rw [add_plain]
  have hlt:i+x < cs.size:=by omega
  exact ⟨by rw [cell_of_heap hb (Array.getElem?_eq_getElem hlt)];rfl,by simp [World.frozen?,hb]⟩
 ·obtain ⟨h2,h3⟩:=setCs_heap vs 0 i w cs hb
  exact hk _ (h.mut hj h3 (r':=cel b t (lay vs i cs)) h2 fun x hx=>.inl hx)
theorem lay_all:∀(vs pre post:List Value),post.length=vs.length→lay vs pre.length (pre++post).toArray=(pre++vs).toArray
 | [],pre, [],_=>rfl
 | [],_,_::_,h=>by simp at h
 |_::_,_, [],h=>by simp at h
 |v::vs,pre,p::post,h=>by
  have ih:=lay_all vs (pre++ [v]) post (by simpa using h)
  simp only [List.length_append,List.length_singleton,List.append_assoc,List.singleton_append] at ih
  have e1:(pre++p::post).toArray.setIfInBounds pre.length v=(pre++v::post).toArray:=by
   rw [List.setIfInBounds_toArray,List.set_append_right _ _ (Nat.le_refl _),Nat.sub_self]
   rfl
  rw [lay,e1]
  exact ih
theorem st_all {b:Nat} {t:TypeId} {cs:Array Value} {vs:List Value} {k:World→Prop} (h:Hp S w0 w rs) (j:Nat) (hj:rs[j]? =some (cel b t cs)) (h1:vs.all Value.oneCell'=true) (hle:Nat.beq vs.length cs.size=true)
  (hk:∀w',Hp S w0 w' (rs.set j (cel b t vs.toArray))→k w'):St w ⟨b,0,none⟩ vs k:=by
 have hle:=Nat.eq_of_beq_eq_true hle
 refine st_cel h j hj h1 (by rw [Nat.ble_eq];omega) fun w' hw=>hk w' ?_
 have e:=lay_all vs [] cs.toList (by rw [Array.length_toList];exact hle.symm)
 simp only [List.nil_append,List.length_nil] at e
 have e2:lay vs 0 cs=vs.toArray:=e
 rwa [e2] at hw
theorem ldn_all {b n:Nat} {t:TypeId} {cs:Array Value} {k:Value→Prop} (h:Hp S w0 w rs) (j:Nat) (hj:rs[j]? =some (cel b t cs)) (hn:Nat.beq cs.size n=true) (hk:k (.agg cs)):LdN w ⟨b,0,none⟩ n k:=by
 have hn:=Nat.eq_of_beq_eq_true hn
 subst hn
 refine ldn_cel h j hj (l:=cs.toList) ?_ (by simp) (by simpa using hk)
 rw [cut,List.drop_zero]
 exact List.take_of_length_le (by simp)
end
section
variable {P : Program} {S : Nat → Prop} {w0 w : World} {rs : List Res} {κ ν : Type} [DecidableEq κ] {enc : κ → Value} {val : ν → Value} {k e t : TypeId} {b : Nat} {l : List (κ × ν)} {ρ : Operand → Value} {o : Oper} {g : Value → World → Prop}
theorem gen_look {m x:Operand} {ok:Bool} (hop:o.op=Op.lookup t m x ok) (h:Hp S w0 w rs) (j:Nat) (hj:rs[j]? =some (mapR enc val b l)) (hm:ρ m= .map (some b)) (KE:KEnc P k enc) (ht:P.underlying t=some (.map k e))
  {z:ν} (hz:zeroOf P e=some (val z)) (c:κ) (hx:ρ x=enc c) (hk:g (if ok then .tuple #[val ((l.lookup c).getD z), .bool (l.lookup c).isSome] else val ((l.lookup c).getD z)) w):Gen P ρ o w g:=by
 have hM:MapAt enc val w b l:=h.get hj
 obtain ⟨h1,h2⟩:=hM.look KE ht (fun W=>run_zeroOf hz) c
 cases ok
 ·exact gen_v (by simp [execOp,hop,hm,hx,h2]) hk
 ·exact gen_v (by simp [execOp,hop,hm,hx,h1]) hk
theorem gen_put {m x y:Operand} (hop:o.op=Op.mapUpdate t m x y) (h:Hp S w0 w rs) (j:Nat) (hj:rs[j]? =some (mapR enc val b l)) (hm:ρ m= .map (some b)) (KE:KEnc P k enc) (ht:P.underlying t=some (.map k e))
  (c:κ) (hx:ρ x=enc c) (u:ν) (hy:ρ y=val u) (hk:∀w',Hp S w0 w' (rs.set j (mapR enc val b (mput l c u)))→g undef w'):Gen P ρ o w g:=by
 have hM:MapAt enc val w b l:=h.get hj
 obtain ⟨w',hrun,h1,h2⟩:=hM.put KE ht c u
 exact gen_s (by simp [execOp,hop,hm,hx,hy,hrun]) (hk w' (h.mut hj h2 (r':=mapR enc val b (mput l c u)) h1 fun x hx=>.inl hx))
theorem gen_del {m x:Operand} {t2:TypeId} (hop:o.op=Op.call {callee:= .builtin .delete,args:= #[m,x],argTypes:= #[t,t2]}) (h:Hp S w0 w rs) (j:Nat) (hj:rs[j]? =some (mapR enc val b l)) (hm:ρ m= .map (some b)) (KE:KEnc P k enc) (ht:P.underlying t=some (.map k e))
  (c:κ) (hx:ρ x=enc c) (hk:∀w',Hp S w0 w' (rs.set j (mapR enc val b (mdel l c)))→g (.tuple #[]) w'):Gen P ρ o w g:=by
 have hM:MapAt enc val w b l:=h.get hj
 obtain ⟨w',hrun,h1,h2⟩:=hM.del (ty:=o.type) KE ht c t2
 exact gen_v (by simp [execOp,hop,resolve,invoke,builtin,hm,hx,hrun]) (hk w' (h.mut hj h2 (r':=mapR enc val b (mdel l c)) h1 fun x hx=>.inl hx))
omit [DecidableEq κ] in
theorem gen_mmake (hop:o.op=Op.makeMap t none) (enc:κ→Value) (val:ν→Value) (h:Hp S w0 w rs) (hk:∀b w',Hp S w0 w' (mapR enc val b []::rs)→g (.map (some b)) w'):Gen P ρ o w g:=by
 refine gen_v (v:= .map (some w.heap.size)) (w':=w.alloc (.map #[] 0)) ?_ (hk _ _ (h.new ((Chg.refl _ _).alloc _) (r:=mapR enc val w.heap.size []) (MapAt.made enc val w) fun b hb=>by have:b=w.heap.size:=hb;omega))
 simp [execOp,hop,Instr.makeMap,newObj,Sem.run]
end
def layL:List Value→Nat→List Value→List Value
 | [],_,cs=>cs
 |v::r,i,cs=>layL r (i+1) (cs.set i v)
def fillL (place:Nat→Option (Nat×Nat)):List (Nat×Value)→List Value→Option (List Value)
 | [],cs=>some cs
 |(i,v)::r,cs=>match place i with
  |none=>none
  |some (off,size)=>bif Nat.beq v.cells.size size && Nat.ble (off+size) cs.length then fillL place r (layL v.cells.toList off cs) else none
theorem layL_length:∀(vs:List Value) (i:Nat) (cs:List Value),(layL vs i cs).length=cs.length
 | [],_,_=>rfl
 |v::r,i,cs=>by rw [layL,layL_length];simp
theorem fold_lay:∀(vs:List Value) (i j:Nat) (cs:Array Value),((vs.zipIdx j).foldl (fun cs (c,j)=>cs.setIfInBounds (i+j) c) cs).toList=layL vs (i+j) cs.toList
 | [],_,_,_=>rfl
 |v::r,i,j,cs=>by
  rw [List.zipIdx_cons,List.foldl_cons,fold_lay r i (j+1),layL]
  simp [Nat.add_assoc]
theorem fill_of (place:Nat→Option (Nat×Nat)):∀(l:List (Nat×Value)) (cs:Array Value) (out:List Value),fillL place l cs.toList=some out→Instr.fill place cs l=some out.toArray
 | [],cs,out,h=>by simp [fillL] at h;simp [Instr.fill,←h]
 |(i,v)::r,cs,out,h=>by
  unfold fillL at h
  unfold Instr.fill
  split at h
  ·cases h
  ·rename_i off size hp
   rw [hp]
   simp only
   cases hb:(Nat.beq v.cells.size size && Nat.ble (off+size) cs.toList.length) with
   |false=>rw [hb] at h;cases h
   |true=>
    rw [hb] at h
    simp only [cond_true] at h
    simp only [Bool.and_eq_true] at hb
    have h1:v.cells.size=size:=Nat.eq_of_beq_eq_true hb.1
    have h2:off+size≤cs.size:=by have:=Nat.le_of_ble_eq_true hb.2;simpa using this
    rw [if_neg (by simp [h1];omega)]
    refine fill_of place r _ out ?_
    rw [←h]
    congr 1
    have:=fold_lay v.cells.toList off 0 cs
    simp only [Nat.add_zero] at this
    rw [←this,←Array.foldl_toList,Array.toList_zipIdx]
def placesL (P:Program):List Field→Option (List (Nat×Nat))
 | []=>some []
 |f::r=>match P.info? f.type with
  |some i=>match placesL P r with
   |some l=>some ((f.offset,i.size)::l)
   |none=>none
  |none=>none
def buildV (P:Program) (t:TypeId) (parts:List (Nat×Value)):Option (List Value):=
 match P.underlying t,zeroOf P t with
 |some (.struct fs),some z=>match placesL P fs.toList with
  |some pl=>fillL (fun i=>pl[i]?) parts z.cells.toList
  |none=>none
 |some (.array _ e),some z=>match P.info? e with
  |some i=>fillL (fun j=>some (j*i.size,i.size)) parts z.cells.toList
  |none=>none
 |_,_=>none
section
variable {P : Program} {w : World} {ρ : Operand → Value} {o : Oper} {g : Value → World → Prop}
theorem run_places:∀(fs:List Field) (pl:List (Nat×Nat)),placesL P fs=some pl→(fs.mapM fun f=>do pure (f.offset,←sizeOf f.type):Sem (List (Nat×Nat))).run P w= .ok pl w
 | [],pl,h=>by simp [placesL] at h;simp [h]
 |f::r,pl,h=>by
  unfold placesL at h
  split at h
  ·rename_i i hi
   split at h
   ·rename_i l hl
    have ih:=run_places r l hl
    simp only [Option.some.injEq] at h
    have h1:(do pure (f.offset,←sizeOf f.type):Sem (Nat×Nat)).run P w= .ok (f.offset,i.size) w:=by simp [sizeOf,typeInfo,hi]
    rw [List.mapM_cons]
    simp only [Sem.run_bind,h1,Result.andThen_ok,ih,Sem.run_pure,h]
   ·cases h
  ·cases h
theorem run_build {t:TypeId} {parts:Array (Nat×Value)} {out:List Value} (h:buildV P t parts.toList=some out):(Instr.build t parts).run P w= .ok (.agg out.toArray) w:=by
 unfold buildV at h
 split at h
 ·rename_i fs z ht hz
  split at h
  ·rename_i pl hpl
   have h1:=run_places (w:=w) fs.toList pl hpl
   have h2:=fill_of (fun (i:Nat)=>pl[i]?) parts.toList z.cells out h
   have h3:(fs.mapM fun f=>do pure (f.offset,←sizeOf f.type):Sem (Array (Nat×Nat))).run P w= .ok pl.toArray w:=by
    rw [Array.mapM_eq_mapM_toList]
    simp only [Sem.run_map,h1,Result.andThen_ok]
   simp only [Instr.build,Sem.run_bind,run_zeroOf hz,Result.andThen_ok,run_underlying ht,h3]
   have h4:(fun (i:Nat)=>pl.toArray[i]?)=fun (i:Nat)=>pl[i]? :=by funext i;simp
   simp only [h4,h2,Sem.run_pure]
  ·cases h
 ·rename_i n e z ht hz
  split at h
  ·rename_i i hi
   have h2:=fill_of (fun j=>some (j*i.size,i.size)) parts.toList z.cells out h
   simp [Instr.build,run_zeroOf hz,run_underlying ht,sizeOf,typeInfo,hi,h2]
  ·cases h
 ·cases h
theorem gen_build {t:TypeId} {parts:Array (Nat×Operand)} (hop:o.op= .build t parts) {out:List Value} (h:buildV P t (parts.toList.map fun p=>(p.1,ρ p.2))=some out) (hk:g (.agg out.toArray) w):Gen P ρ o w g:=by
 have h1:(parts.map fun p=>(p.1,ρ p.2)).toList=parts.toList.map fun p=>(p.1,ρ p.2):=by simp
 rw [←h1] at h
 exact gen_v (by simp only [execOp,hop,Sem.run_bind,run_build h,Result.andThen_ok,Sem.run_pure]) hk
theorem gen_len {t e:TypeId} {x:Operand} (hop:o.op= .call {callee:= .builtin .len,args:= #[x],argTypes:= #[t]}) {A:Option Addr} {n c:Nat} (hx:ρ x= .slice A n c) (ht:P.underlying t=some (.slice e)) (hk:g (.int .i64 n) w):Gen P ρ o w g:=
 gen_v (by simp [execOp,hop,resolve,invoke,builtin,Builtin.len_,hx,run_underlying ht,goInt]) hk
theorem gen_min {t t':TypeId} {x y:Operand} (hop:o.op= .call {callee:= .builtin .min,args:= #[x,y],argTypes:= #[t,t']}) {k k':IntKind} {m n:Int} (hx:ρ x= .int k m) (hy:ρ y= .int k' n) (hk:g (.int k (min m n)) w):Gen P ρ o w g:=by
 refine gen_v (v:= .int k (min m n)) (w':=w) ?_ hk
 have e:(if n < m then n else m)=min m n:=by simp only [Int.min_def];split<;>split<;>omega
 simp [execOp,hop,resolve,invoke,builtin,Builtin.min_,Builtin.min2,hx,hy,e]
theorem gen_max {t t':TypeId} {x y:Operand} (hop:o.op= .call {callee:= .builtin .max,args:= #[x,y],argTypes:= #[t,t']}) {k k':IntKind} {m n:Int} (hx:ρ x= .int k m) (hy:ρ y= .int k' n) (hk:g (.int k (max m n)) w):Gen P ρ o w g:=by
 refine gen_v (v:= .int k (max m n)) (w':=w) ?_ hk
 have e:(if m < n then n else m)=max m n:=by simp only [Int.max_def];split<;>split<;>omega
 simp [execOp,hop,resolve,invoke,builtin,Builtin.max_,Builtin.max2,hx,hy,e]
theorem gen_ix {t:TypeId} {x i:Operand} (hop:o.op= .indexAddr t x i) {b ofs len cap sz n0:Nat} {k:IntKind} {j:Int} (hx:ρ x= .slice (some ⟨b,ofs,none⟩) len cap) (hi:ρ i= .int k j) (he:elemOfT P t=some (true,n0,sz)) (hj:0≤j∧j < len)
  (hk:g (.pointer (some ⟨b,ofs+j.toNat*sz,none⟩)) w):Gen P ρ o w g:=by
 unfold elemOfT at he
 split at he
 ·rename_i e hs
  split at he
  ·rename_i inf hinf
   simp only [Option.some.injEq,Prod.mk.injEq,true_and] at he
   obtain ⟨_,rfl⟩:=he
   exact gen_v (by simp [execOp,hop,hx,hi,Instr.indexAt,asIntOf,run_underlying hs,hj,sizeOf,typeInfo,hinf,add_plain]) hk
  ·cases he
 ·rename_i n' e hs
  split at he<;>simp at he
 ·cases he
theorem gen_ixa {t:TypeId} {x i:Operand} (hop:o.op= .indexAddr t x i) {b ofs sz n0:Nat} {k:IntKind} {j:Int} (hx:ρ x= .pointer (some ⟨b,ofs,none⟩)) (hi:ρ i= .int k j) (he:elemOfT P t=some (false,n0,sz)) (hj:0≤j∧j < n0)
  (hk:g (.pointer (some ⟨b,ofs+j.toNat*sz,none⟩)) w):Gen P ρ o w g:=by
 unfold elemOfT at he
 split at he
 ·rename_i e hs
  split at he<;>simp at he
 ·rename_i n' e hs
  split at he
  ·rename_i inf hinf
   simp only [Option.some.injEq,Prod.mk.injEq,true_and] at he
   obtain ⟨rfl,rfl⟩:=he
   exact gen_v (by simp [execOp,hop,hx,hi,Instr.indexAt,Instr.sureAddr,asIntOf,run_underlying hs,hj,sizeOf,typeInfo,hinf,add_plain]) hk
  ·cases he
 ·cases he
def EqIs (P:Program) (t:TypeId) (x y:Value) (b:Bool):Prop:=∀w,(Op.equal t x y).run P w= .ok b w
theorem gen_eqa {op:BinOp} {t t2:TypeId} {x y:Operand} (hop:o.op= .binOp op t x y t2) {xs ys:Array Value} {b:Bool} (hx:ρ x= .agg xs) (hy:ρ y= .agg ys) (he:EqIs P t (.agg xs) (.agg ys) b) (hm:P.eqGuardType P.depth t=false)
  (ho:op= .eql∨op= .neq) (hk:g (.bool (if op= .eql then b else !b)) w):Gen P ρ o w g:=by
 refine gen_v (v:= .bool (if op= .eql then b else !b)) (w':=w) ?_ hk
 have hg:=run_eqGuard_agg (P:=P) (w:=w) op t x y xs ys hm
 have h':=he w
 rcases ho with rfl|rfl
 ·simp only [execOp,hop,hx,hy,Sem.run_bind,hg,Result.andThen_ok,binOp,h',Sem.run_pure,if_true]
 ·simp only [execOp,hop,hx,hy,Sem.run_bind,hg,Result.andThen_ok,binOp,h',Sem.run_pure,reduceCtorEq,if_false]
end
inductive Has:List Res→Nat→Res→Prop
 |here {r:Res} {rs:List Res}:Has (r::rs) 0 r
 |there {r q:Res} {rs:List Res} {j:Nat} (h:Has rs j r):Has (q::rs) (j+1) r
theorem Has.at {rs:List Res} {j:Nat} {r:Res} (h:Has rs j r):rs[j]? =some r:=by
 induction h with
 |here=>rfl
 |there _ ih=>simpa using ih
section
variable {S : Nat → Prop} {w0 w : World} {rs : List Res} {b i j n : Nat} {t : TypeId} {cs : Array Value}
theorem ld_hs (h:Hp S w0 w rs) (hj:Has rs j (cel b t cs)) {v:Value} {k:Value→Prop} (hv:cs[i]? =some v) (hk:k v):Ld w ⟨b,i,none⟩ k:=ld_cel h j hj.at hv hk
theorem lda_hs (h:Hp S w0 w rs) (hj:Has rs j (cel b t cs)) {k:Value→Prop} (hn:Nat.beq cs.size n=true) (hk:k (.agg cs)):LdN w ⟨b,0,none⟩ n k:=ldn_all h j hj.at hn hk
theorem ldn_hs (h:Hp S w0 w rs) (hj:Has rs j (cel b t cs)) {l:List Value} {k:Value→Prop} (hc:cut cs i n=l) (hl:l.length=n) (hk:k (.agg l.toArray)):LdN w ⟨b,i,none⟩ n k:=ldn_cel h j hj.at hc hl hk
theorem sta_hs {vs:List Value} {k:World→Prop} (h:Hp S w0 w rs) (hj:Has rs j (cel b t cs)) (h1:vs.all Value.oneCell'=true) (hle:Nat.beq vs.length cs.size=true) (hk:∀w',Hp S w0 w' (rs.set j (cel b t vs.toArray))→k w'):St w ⟨b,0,none⟩ vs k:=st_all h j hj.at h1 hle hk
theorem st_hs {vs:List Value} {k:World→Prop} (h:Hp S w0 w rs) (hj:Has rs j (cel b t cs)) (h1:vs.all Value.oneCell'=true) (hle:Nat.ble (i+vs.length) cs.size=true) (hk:∀w',Hp S w0 w' (rs.set j (cel b t (lay vs i cs)))→k w'):St w ⟨b,i,none⟩ vs k:=st_cel h j hj.at h1 hle hk
end
theorem cel_ok {b:Nat} {t:TypeId} {cs:Array Value} {w:World}:(cel b t cs).ok w↔w.heap[b]? =some (.cells cs t):=Iff.rfl
theorem cel_dom {b x:Nat} {t:TypeId} {cs:Array Value}:(cel b t cs).dom x↔x=b:=Iff.rfl
theorem mapR_ok {κ ν:Type} {enc:κ→Value} {val:ν→Value} {b:Nat} {l:List (κ×ν)} {w:World}:(mapR enc val b l).ok w↔MapAt enc val w b l:=Iff.rfl
attribute [irreducible] cel mapR
end Go.Proofs.YtpbapnlnheahnaaGreatDoor
