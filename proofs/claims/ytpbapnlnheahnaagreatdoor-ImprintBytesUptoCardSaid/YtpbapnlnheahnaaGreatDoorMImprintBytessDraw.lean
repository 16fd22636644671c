/- Draw: a region that draws its order, reckoned in one order: first what reads, then the rest. No condition. -/
import Derived.Test.YtpbapnlnheahnaaGreatDoorMImprintBytessEng
set_option linter.unusedSimpArgs false
set_option linter.unusedVariables false
namespace Go.Proofs.YtpbapnlnheahnaaGreatDoor
open Go.RowKit
structure Rd (P:Program) (ρ:Operand→Value) (o:Oper) (w:World) (g:Value→Prop):Prop where
 out:∃v,(∀w',Chg N0 w w'→(execOp ρ o).run P w'= .ok (.value v) w')∧g v
def xrint (op:BinOp) (k k':IntKind) (m n:Int) (g:Value→Prop) (gen:Prop):Prop:=
 match op with
 | .shl| .shr=>gen
 |_=>bif decide (k=k') then (match op with
  | .add=>Ar k (m+n) fun r=>g (.int k r)
  | .sub=>Ar k (m - n) fun r=>g (.int k r)
  | .mul=>Ar k (m*n) fun r=>g (.int k r)
  | .eql=>g (.bool (m==n))
  | .neq=>g (.bool (m !=n))
  | .lss=>g (.bool (decide (m < n)))
  | .leq=>g (.bool (decide (m≤n)))
  | .gtr=>g (.bool (decide (m > n)))
  | .geq=>g (.bool (decide (m≥n)))
  |_=>gen) else False
def xr (T:Tb) (P:Program) (ρ:Operand→Value) (o:Oper) (w:World) (g:Value→Prop):Prop:=
 match o.op with
 | .move x| .assign x=>g (ρ x)
 | .pick c a b=>match ρ c with
  | .bool t=>Br t (g (ρ a)) (g (ρ b))
  |_=>False
 | .load t a=>match ρ a with
  | .pointer (some ad)=>match layT T t with
   |some (false,_)=>Ld w ad g
   |some (true,n)=>LdN w ad n g
   |none=>False
  |_=>False
 | .nilCheck x=>match ρ x with
  | .pointer (some a)=>g (.pointer (some a))
  |_=>Rd P ρ o w g
 | .fieldAddr s x f=>match ρ x with
  | .pointer (some ⟨b,ofs,none⟩)=>match offT T s f with
   |some n=>fnat n fun n=>g (.pointer (some ⟨b,ofs+n,none⟩))
   |none=>Rd P ρ o w g
  |_=>Rd P ρ o w g
 | .extract t i=>match ρ t with
  | .tuple vs=>match vs[i]? with
   |some v=>g v
   |none=>False
  |_=>Rd P ρ o w g
 | .binOp op _ x y _=>match ρ x,ρ y with
  | .int k m, .int k' n=>xrint op k k' m n g (Rd P ρ o w g)
  |_,_=>Rd P ρ o w g
 | .unOp .not _ x=>match ρ x with
  | .bool b=>g (.bool (!b))
  |_=>Rd P ρ o w g
 |_=>Rd P ρ o w g
section
variable {P : Program} {ρ : Operand → Value} {o : Oper} {w : World} {g : Value → Prop}
theorem rd_id (h:Rd P ρ o w g):Rd P ρ o w g:=h
theorem rd_of {v:Value} (h:∀w',Chg N0 w w'→(execOp ρ o).run P w'= .ok (.value v) w') (hg:g v):Rd P ρ o w g:=⟨v,h,hg⟩
theorem xr_sound {T:Tb} (hT:TabOk P T) (h:xr T P ρ o w g):Rd P ρ o w g:=by
 unfold xr at h
 split at h
 ·rename_i x hop
  exact rd_of (fun w' _=>by simp [execOp,hop]) h
 ·rename_i x hop
  exact rd_of (fun w' _=>by simp [execOp,hop]) h
 ·rename_i c a b hop
  split at h
  ·rename_i t ht
   cases t with
   |true=>
    refine rd_of (v:=ρ a) (fun w' _=>?_) (h.1 rfl)
    simp [execOp,hop,ht,asBool]
   |false=>
    refine rd_of (v:=ρ b) (fun w' _=>?_) (h.2 rfl)
    simp [execOp,hop,ht,asBool]
  ·exact h.elim
 ·rename_i t a hop
  split at h
  ·rename_i ad ha
   split at h
   ·rename_i n hl
    have hl:=hT.lay hl
    obtain ⟨v,hv,hg⟩:=h
    refine rd_of (fun w' hc=>?_) hg
    have h1:=(run_isAgg (w:=w') hl).1
    have hv':=hc.cell0 hv
    simp [execOp,hop,ha,Instr.loadAt,Instr.sureAddr,loadVar,h1,load,Sem.run,hv']
   ·rename_i n hl
    have hl:=hT.lay hl
    obtain ⟨cs,hlen,hv,hg⟩:=h
    refine rd_of (fun w' hc=>?_) hg
    subst hlen
    obtain ⟨h1,h2⟩:=run_isAgg (w:=w') hl
    have hv':∀(i:Nat) v,cs[i]? =some v→w'.cell? (ad.add i)=some v:=fun i v hi=>hc.cell0 (hv i v hi)
    simp [execOp,hop,ha,Instr.loadAt,Instr.sureAddr,loadVar,h1,h2,run_cells hv']
   ·exact h.elim
  ·exact h.elim
 ·rename_i x hop
  split at h
  ·rename_i a ha
   exact rd_of (fun w' _=>by simp [execOp,hop,ha]) h
  ·exact h
 ·rename_i s x f hop
  split at h
  ·rename_i b ofs ha
   split at h
   ·rename_i n hn
    have hn:=hT.off hn
    rw [fnat_eq] at h
    exact rd_of (fun w' _=>by simp [execOp,hop,ha,run_fieldAt hn]) h
   ·exact h
  ·exact h
 ·rename_i t i hop
  split at h
  ·rename_i vs ht
   split at h
   ·rename_i v hv
    exact rd_of (fun w' _=>by simp [execOp,hop,ht,Instr.extract,hv]) h
   ·exact h.elim
  ·exact h
 ·rename_i op t x y t2 hop
  split at h
  ·rename_i k m k' n hx hy
   unfold xrint at h
   split at h
   ·exact h
   ·exact h
   ·obtain rfl:k=k':=by
     by_cases hk:k=k'
     ·exact hk
     ·simp [hk] at h
    simp only [decide_true,cond_true] at h
    split at h
    ·obtain ⟨r,rfl,h⟩:=h;exact rd_of (fun w' _=>by simp [execOp,hop,hx,hy,binOp,Op.intArith,eqGuard_at_int]) h
    ·obtain ⟨r,rfl,h⟩:=h;exact rd_of (fun w' _=>by simp [execOp,hop,hx,hy,binOp,Op.intArith,eqGuard_at_int]) h
    ·obtain ⟨r,rfl,h⟩:=h;exact rd_of (fun w' _=>by simp [execOp,hop,hx,hy,binOp,Op.intArith,eqGuard_at_int]) h
    ·exact rd_of (fun w' _=>by simp [execOp,hop,hx,hy,binOp,Op.intCmp,eqGuard_at_int]) h
    ·exact rd_of (fun w' _=>by simp [execOp,hop,hx,hy,binOp,Op.intCmp,eqGuard_at_int]) h
    ·exact rd_of (fun w' _=>by simp [execOp,hop,hx,hy,binOp,Op.intCmp,eqGuard_at_int]) h
    ·exact rd_of (fun w' _=>by simp [execOp,hop,hx,hy,binOp,Op.intCmp,eqGuard_at_int]) h
    ·exact rd_of (fun w' _=>by simp [execOp,hop,hx,hy,binOp,Op.intCmp,eqGuard_at_int]) h
    ·exact rd_of (fun w' _=>by simp [execOp,hop,hx,hy,binOp,Op.intCmp,eqGuard_at_int]) h
    ·exact h
  ·exact h
 ·rename_i t x hop
  split at h
  ·rename_i b hb
   exact rd_of (fun w' _=>by simp [execOp,hop,hb,Op.unary]) h
  ·exact h
 ·exact h
end
def Yd (P:Program) (ops:Array Oper) (o:Oper) (w:World) (v:Value) (a:Act):Prop:=
 (Region.wanted o (yielded ops a.tmps)=true∧∀w',Chg N0 w w'→(execOp a.eval o).run P w'= .ok (.value v) w')∨(Region.wanted o (yielded ops a.tmps)=false∧v=undef)
def He (P:Program) (ops:Array Oper) (w:World) (K:Act→Prop):List Nat→Act→Prop
 | [],a=>K a
 |i::r,a=>∃o v,ops[i]? =some o∧Yd P ops o w v a∧He P ops w K r (a.put o.dst v)
section
variable {P : Program} {ops : Array Oper} {w : World}
theorem He.mono {K K':Act→Prop} (h:∀a,K a→K' a):∀(l:List Nat) (a:Act),He P ops w K l a→He P ops w K' l a
 | [],a,hh=>h a hh
 |_::r,_,⟨o,v,ho,hy,hr⟩=>⟨o,v,ho,hy,He.mono h r _ hr⟩
theorem Yd.grow {o:Oper} {w':World} {v:Value} {a:Act} (h:Yd P ops o w v a) (hc:Chg N0 w w'):Yd P ops o w' v a:=
 h.imp (fun ⟨h1,h2⟩=>⟨h1,fun w'' hc'=>h2 w'' (hc.trans0 hc')⟩) id
theorem Yd.put {o:Oper} {v u:Value} {a:Act} {d:Option Tmp} (h:Yd P ops o w v a) (hs:∀cs b,o.op≠ .select cs b) (hd:∀t,d=some t→t∉o.looksAt ops):Yd P ops o w v (a.put d u):=by
 unfold Yd at*
 rw [execOp_put o hs a d u hd,wanted_put o a d u hd]
 exact h
theorem Yd.unput {o:Oper} {v u:Value} {a:Act} {d:Option Tmp} (h:Yd P ops o w v (a.put d u)) (hs:∀cs b,o.op≠ .select cs b) (hd:∀t,d=some t→t∉o.looksAt ops):Yd P ops o w v a:=by
 unfold Yd at*
 rw [execOp_put o hs a d u hd,wanted_put o a d u hd] at h
 exact h
theorem He.front {K:Act→Prop} (hsel:∀(j:Nat) (o:Oper) cs b,ops[j]? =some o→o.op≠ .select cs b) {i:Nat} {oi:Oper} (hi:ops[i]? =some oi) (post:List Nat):∀(pre:List Nat) (a:Act),
  (∀j∈pre,∀oj,ops[j]? =some oj→oj.apart ops oi=true)→He P ops w K (pre++i::post) a→∃v,Yd P ops oi w v a∧He P ops w K (pre++post) (a.put oi.dst v)
 | [],a,_,⟨o,v,ho,hy,hr⟩=>by
  rw [hi] at ho
  cases ho
  exact ⟨v,hy,hr⟩
 |j::pre,a,hap,⟨o,v,ho,hy,hr⟩=>by
  obtain ⟨v',hy',hr'⟩:=He.front hsel hi post pre _ (fun j' hj'=>hap j' (by simp [hj'])) hr
  obtain ⟨h1,h2,h3⟩:=Oper.apart_spec (hap j (by simp) o ho)
  refine ⟨v',hy'.unput (fun cs b=>hsel i oi cs b hi) h1,o,v,ho,hy.put (fun cs b=>hsel j o cs b ho) h3,?_⟩
  rw [←Act.put_comm a v v' h2]
  exact hr'
end
def Still {α:Type} (P:Program) (s:Sem α):Prop:=∀w r w',s.run P w= .ok r w'→w'=w
section
variable {P : Program} {α β : Type}
theorem still_pure (x:α):Still P (pure x):=fun w r w' h=>by simp at h;exact h.2.symm
theorem still_bind {s:Sem α} {f:α→Sem β} (h:Still P s) (hf:∀x,Still P (f x)):Still P (s >>=f):=fun w r w' hr=>by
 rw [Sem.run_bind] at hr
 cases hs:s.run P w with
 |ok x w1=>
  rw [hs] at hr
  have:=h w x w1 hs
  subst this
  exact hf x _ _ _ hr
 |halt x w1=>rw [hs] at hr;cases hr
theorem still_stuck (m:String):Still P (stuck m:Sem α):=fun w r w' h=>by simp [stuck,Sem.run] at h
theorem still_info (t:TypeId):Still P (typeInfo t):=fun w r w' h=>by
 cases hz:P.info? t with
 |none=>simp [typeInfo,hz,stuck] at h
 |some i=>simp [typeInfo,hz] at h;exact h.2.symm
theorem still_under (t:TypeId):Still P (underlying t):=fun w r w' h=>by
 cases hz:P.underlying t with
 |none=>simp [underlying,hz,stuck] at h
 |some i=>simp [run_underlying hz] at h;exact h.2.symm
theorem still_size (t:TypeId):Still P (sizeOf t):=by
 unfold sizeOf
 exact still_bind (still_info t) fun _=>still_pure _
theorem still_zero (t:TypeId):Still P (zeroValue t):=fun w r w' h=>by
 cases hz:P.info? t with
 |none=>simp [zeroValue,typeInfo,hz,stuck] at h
 |some i=>
  cases hv:i.zero with
  |none=>simp [zeroValue,typeInfo,hz,hv,unsupported] at h
  |some z=>simp [zeroValue,typeInfo,hz,hv] at h;exact h.2.symm
theorem still_mapM {f:α→Sem β} (hf:∀x,Still P (f x)):∀l:List α,Still P (l.mapM f)
 | []=>still_pure _
 |x::l=>by
  rw [List.mapM_cons]
  exact still_bind (hf x) fun _=>still_bind (still_mapM hf l) fun _=>still_pure _
theorem still_mapMA {f:α→Sem β} (hf:∀x,Still P (f x)) (l:Array α):Still P (l.mapM f):=by
 rw [Array.mapM_eq_mapM_toList]
 intro w r w' h
 rw [Sem.run_map] at h
 cases hs:(l.toList.mapM f).run P w with
 |ok x w1=>
  rw [hs] at h
  have:=still_mapM hf _ _ _ _ hs
  subst this
  cases h
  rfl
 |halt x w1=>rw [hs] at h;cases h
theorem still_build (t:TypeId) (parts:Array (Nat×Value)):Still P (Instr.build t parts):=by
 unfold Instr.build
 refine still_bind (still_zero t) fun z=>still_bind (still_under t) fun d=>?_
 split
 ·refine still_bind (still_mapMA (fun f=>still_bind (still_size _) fun _=>still_pure _) _) fun pl=>?_
  split
  ·exact still_pure _
  ·exact still_stuck _
 ·refine still_bind (still_size _) fun _=>?_
  split
  ·exact still_pure _
  ·exact still_stuck _
 ·exact still_stuck _
end
def aOp:Op→Bool
 | .move _| .assign _| .pick .. | .extract .. | .build .. | .alloc _| .box .. | .makeMap _ none| .buildSlice .. =>true
 |_=>false
theorem aOp_run {P:Program} {ρ:Operand→Value} {o:Oper} {w w':World} {nx:Next} (h:aOp o.op=true) (hr:(execOp ρ o).run P w= .ok nx w'):(∃v,nx= .value v)∧Chg N0 w w':=by
 have quiet:∀{s:Sem Value},Still P s→((do pure (.value (←s)):Sem Next).run P w= .ok nx w')→(∃v,nx= .value v)∧Chg N0 w w':=fun {s} hs hrr=>by
  clear hr
  rw [Sem.run_bind] at hrr
  cases hq:s.run P w with
  |ok x w1=>
   rw [hq] at hrr
   have:=hs _ _ _ hq
   subst this
   rw [Result.andThen_ok,Sem.run_pure] at hrr
   cases hrr
   exact ⟨⟨x,rfl⟩,Chg.refl _ _⟩
  |halt x w1=>rw [hq] at hrr;cases hrr
 cases hop:o.op<;>rw [hop] at h<;>simp [aOp] at h
 ·exact quiet (still_pure _) (by simpa [execOp,hop] using hr)
 ·exact quiet (still_pure _) (by simpa [execOp,hop] using hr)
 ·simp only [execOp,hop] at hr
  refine quiet (s:=do pure (if←asBool (ρ _) then ρ _ else ρ _)) (still_bind (fun w r w' h=>?_) fun _=>still_pure _) (by simpa using hr)
  unfold asBool at h
  split at h
  ·exact still_pure _ _ _ _ h
  ·exact still_stuck _ _ _ _ h
 ·rename_i t
  cases hz:P.info? t with
  |none=>simp [execOp,hop,Instr.alloc,zeroValue,typeInfo,hz,stuck] at hr
  |some i=>
   cases hv:i.zero with
   |none=>simp [execOp,hop,Instr.alloc,zeroValue,typeInfo,hz,hv,unsupported] at hr
   |some z=>
    simp [execOp,hop,Instr.alloc,zeroValue,typeInfo,hz,hv,newVar,newRow,newObj,Sem.run] at hr
    exact ⟨⟨_,hr.1.symm⟩,hr.2▸(Chg.refl _ _).alloc _⟩
 ·simp [execOp,hop,Instr.box,newVar,newRow,newObj,Sem.run] at hr
  exact ⟨⟨_,hr.1.symm⟩,hr.2▸(Chg.refl _ _).alloc _⟩
 ·simp only [execOp,hop] at hr
  exact quiet (still_build _ _) hr
 ·rename_i t n parts
  cases hu:P.underlying t with
  |none=>simp [execOp,hop,Instr.buildSlice,underlying,hu,stuck] at hr
  |some d=>
   cases d with
   |slice e=>
    cases hi:P.info? e with
    |none=>simp [execOp,hop,Instr.buildSlice,run_underlying hu,sizeOf,typeInfo,hi,stuck] at hr
    |some i=>
     have key:∀(msg:String) (F:Option (Array Value)),((Sem.run P (match F with
       |some cells=>(fun a=>Value.slice (some a) n n) <$> newRow e cells
       |x=>stuck msg) w).andThen fun a w'=>Result.ok (Next.value a) w')=Result.ok nx w'→(∃v,nx=Next.value v)∧Chg N0 w w':=fun msg F hF=>by
      cases F with
      |none=>simp [stuck] at hF
      |some cs=>
       simp [newRow,newObj,Sem.run] at hF
       exact ⟨⟨_,hF.1.symm⟩,hF.2▸(Chg.refl _ _).alloc _⟩
     by_cases h1:n*i.size > 2 ^ 24
     ·simp [execOp,hop,Instr.buildSlice,run_underlying hu,sizeOf,typeInfo,hi,h1,unsupported,Sem.run] at hr
     ·by_cases h2:n*i.size=0
      ·simp [execOp,hop,Instr.buildSlice,run_underlying hu,sizeOf,typeInfo,hi,h2] at hr
       exact key _ _ hr
      ·simp [execOp,hop,Instr.buildSlice,run_underlying hu,sizeOf,typeInfo,hi,h1,h2,zeroValue] at hr
       cases hz:i.zero with
       |none=>simp [hz,unsupported] at hr
       |some z=>
        simp only [hz,Sem.run_pure,Result.andThen_ok] at hr
        exact key _ _ hr
   |_=>simp [execOp,hop,Instr.buildSlice,run_underlying hu,stuck,Sem.run] at hr
 ·rename_i t r
  cases r with
  |none=>
   simp [execOp,hop,Instr.makeMap,newObj,Sem.run] at hr
   exact ⟨⟨_,hr.1.symm⟩,hr.2▸(Chg.refl _ _).alloc _⟩
  |some r=>simp at h
 ·simp only [execOp,hop] at hr
  refine quiet (fun w r w' h=>?_) hr
  unfold Instr.extract at h
  split at h
  ·split at h
   ·exact still_pure _ _ _ _ h
   ·exact still_stuck _ _ _ _ h
  ·exact still_stuck _ _ _ _ h
@[simp] theorem put_defers (a:Act) (d:Option Tmp) (v:Value):(a.put d v).defers=a.defers:=by cases d<;>rfl
def CD (a:Act) (w:World) (a1:Act) (w1:World):Prop:=Chg N0 w w1∧a1.defers=a.defers
section
variable {P : Program} {ops : Array Oper} {Q : Exit → Act → World → Prop}
theorem He.alloc {w:World} (hsel:∀(j:Nat) (o:Oper) cs b,ops[j]? =some o→o.op≠ .select cs b) (hP:∀c a w,¬Q (.panic c) a w) {i:Nat} {oi:Oper} (hi:ops[i]? =some oi) (T:Act→World→Prop):∀(hs:List Nat) (a:Act),
  (∀j∈hs,∀oj,ops[j]? =some oj→oj.apart ops oi=true)→He P ops w (fun a'=>wpOp P ops Q i (fun a1 w1=>CD a' w a1 w1∧T a1 w1) a' w) hs a→wpOp P ops Q i (fun a1 w1=>CD a w a1 w1∧He P ops w1 (fun a'=>T a' w1) hs a1) a w
 | [],_,_,h=>h
 |j::hs,a,hap,⟨o,v,ho,hy,hr⟩=>by
  have ih:=He.alloc hsel hP hi T hs _ (fun j' hj'=>hap j' (by simp [hj'])) hr
  obtain ⟨h1,h2,h3⟩:=Oper.apart_spec (hap j (by simp) o ho)
  have fin:∀u w1,Chg N0 w w1→He P ops w1 (fun a'=>T a' w1) hs ((a.put o.dst v).put oi.dst u)→CD a w (a.put oi.dst u) w1∧He P ops w1 (fun a'=>T a' w1) (j::hs) (a.put oi.dst u):=fun u w1 hc hh=>
   ⟨⟨hc,put_defers _ _ _⟩,o,v,ho,(hy.grow hc).put (fun cs b=>hsel j o cs b ho) h3,by rw [←Act.put_comm a v u h2];exact hh⟩
  unfold wpOp at ih ⊢
  simp only [hi] at ih ⊢
  rw [wanted_put oi a o.dst v h1] at ih
  split at ih
  ·rename_i hw
   rw [if_pos hw]
   rcases ih with ih|⟨hasks,hl⟩
   ·refine .inl ?_
    unfold Oper.wp at ih ⊢
    rw [execOp_put oi (fun cs b=>hsel i oi cs b hi) a o.dst v h1] at ih
    generalize (execOp a.eval oi).run P w=r at ih ⊢
    cases r with
    |ok nx w'=>
     cases nx<;>simp only [Oper.upon] at ih ⊢ <;>first
      |exact fin _ _ ih.1.1 ih.2
      |(have h4:=ih.1.2
        simp at h4
        done)
      |exact Rows.mono ih fun u w'' he=>fin _ _ he.1.1 he.2
      |(refine Calls.mono ih fun e w'' he=>?_
        cases e with
        |returned u=>exact fin _ _ he.1.1 he.2
        |panicked c=>exact (hP _ _ _ he).elim
        |outgrown=>exact he)
    |halt x w'=>
     cases x<;>simp only [Oper.upon] at ih
     exact (hP _ _ _ ih).elim
   ·refine .inr ⟨?_,hl⟩
    unfold Oper.asks at hasks ⊢
    rw [execOp_put oi (fun cs b=>hsel i oi cs b hi) a o.dst v h1] at hasks
    exact hasks
  ·rename_i hw
   rw [if_neg hw]
   exact fin undef w (Chg.refl _ _) ih.2
theorem wpOp_aOp {i:Nat} {oi:Oper} (hP:∀c a w,¬Q (.panic c) a w) (hi:ops[i]? =some oi) (hA:aOp oi.op=true) {T:Act→World→Prop} {a:Act} {w:World} (h:wpOp P ops Q i T a w):wpOp P ops Q i (fun a1 w1=>CD a w a1 w1∧T a1 w1) a w:=by
 unfold wpOp at h ⊢
 simp only [hi] at h ⊢
 split at h
 ·rename_i hw
  rw [if_pos hw]
  rcases h with h|h
  ·refine .inl ?_
   unfold Oper.wp at h ⊢
   cases hr:(execOp a.eval oi).run P w with
   |ok n w'=>
    obtain ⟨⟨v,rfl⟩,hc⟩:=aOp_run hA hr
    rw [hr] at h
    exact ⟨⟨hc,put_defers _ _ _⟩,h⟩
   |halt x w'=>
    rw [hr] at h
    cases x<;>simp only [Oper.upon] at h
    exact (hP _ _ _ h).elim
  ·exact .inr h
 ·rename_i hw
  rw [if_neg hw]
  exact ⟨⟨Chg.refl _ _,put_defers _ _ _⟩,h⟩
def gOp:Op→Bool
 | .call c=>match c.callee with
  | .builtin .append=>true
  | .value _=>true
  |_=>false
 |_=>false
def gAt (ops:Array Oper) (i:Nat):Bool:=match ops[i]? with|some o=>gOp o.op && o.guard.isNone|none=>false
def wpG (P:Program) (ops:Array Oper) (Q:Exit→Act→World→Prop) (g:Bool):List Nat→Act→World→Prop
 | [],a,w=>Q .normal a w
 |i::r,a,w=>wpOp P ops Q i (fun a1 w1=>(g=true→gAt ops i=true→CD a w a1 w1)∧wpG P ops Q g r a1 w1) a w
def pOp:Op→Bool
 | .move _| .assign _| .pick .. | .extract .. =>true
 |_=>false
theorem pOp_run {P:Program} {ρ:Operand→Value} {o:Oper} {w:World} {v:Value} (h:pOp o.op=true) (hr:(execOp ρ o).run P w= .ok (.value v) w) (w':World):(execOp ρ o).run P w'= .ok (.value v) w':=by
 cases hop:o.op<;>rw [hop] at h<;>simp [pOp] at h
 ·simp [execOp,hop] at hr ⊢;exact hr
 ·simp [execOp,hop] at hr ⊢;exact hr
 ·rename_i c a b
  cases hc:ρ c<;>simp [execOp,hop,hc,asBool,stuck,Sem.run] at hr ⊢
  exact hr
 ·rename_i t i
  cases ht:ρ t<;>simp [execOp,hop,ht,Instr.extract,stuck,Sem.run] at hr ⊢
  rename_i vs
  cases hv:vs[i]? <;>simp [hv] at hr ⊢
  exact hr
theorem He.tail {P:Program} {ops:Array Oper} {Q:Exit→Act→World→Prop} {w:World} (hsel:∀(j:Nat) (o:Oper) cs b,ops[j]? =some o→o.op≠ .select cs b) (hP:∀c a w,¬Q (.panic c) a w) {i:Nat} {oi:Oper} (hi:ops[i]? =some oi) (T:Act→World→Prop):∀(hs:List Nat) (a:Act),
  (∀j∈hs,∀oj,ops[j]? =some oj→pOp oj.op=true∧oj.apart ops oi=true)→He P ops w (fun a'=>wpOp P ops Q i T a' w) hs a→wpOp P ops Q i (fun a1 w1=>He P ops w1 (fun a'=>T a' w1) hs a1) a w
 | [],a,_,h=>h
 |j::hs,a,hap,⟨o,v,ho,hy,hr⟩=>by
  obtain ⟨hp,ha⟩:=hap j (by simp) o ho
  have hyy:Yields P ops o v a:=hy.imp (fun ⟨h1,h2⟩=>⟨h1,fun w'=>pOp_run hp (h2 w (Chg.refl _ _)) w'⟩) id
  have ih:=He.tail hsel hP hi T hs _ (fun j' hj'=>hap j' (by simp [hj'])) hr
  have h2:=wpOp_put hi ha (fun cs b=>hsel j o cs b ho) (fun cs b=>hsel i oi cs b hi) (fun c a w h=>(hP c _ w h).elim) hyy ih
  refine wpOp_mono (fun a' w' ⟨h3,h4⟩=>⟨o,v,ho,h3.imp (fun ⟨h5,h6⟩=>⟨h5,fun w'' _=>h6 w''⟩) id,h4⟩) h2
def depOk (ops:Array Oper) (b:Array Nat):Bool:=
 (List.range ops.size).all fun i=>match ops[i]? with
  |some o=>o.after.toList.all (fun e=> !Region.binds .any e|| (Nat.blt e.on i && (b.getD i 0).testBit e.on)) &&
    (List.range ops.size).all (fun j=> !(b.getD i 0).testBit j|| o.after.toList.any (fun e=>Region.binds .any e && (e.on==j|| (b.getD e.on 0).testBit j)))
  |none=>true
def mixB (ops:Array Oper) (p:Nat→Bool) (g:Bool):Bool:=
 let b:=Region.before ops
 Region.noSelect ops && depOk ops b &&
 ((List.range ops.size).all fun i=> !p i|| (List.range i).all fun j=> !p j|| match ops[i]?,ops[j]? with
  |some oi,some oj=>oi.after.any (fun e=>Region.binds .any e && e.on==j)|| oj.apart ops oi
  |_,_=>false) &&
 ((List.range ops.size).all fun i=>p i||
  ((List.range ops.size).all fun j=> !p j|| (b.getD i 0).testBit j|| match ops[i]?,ops[j]? with
   |some oi,some oj=>(aOp oi.op|| pOp oj.op|| (g && gOp oi.op && oi.guard.isNone)) && oj.apart ops oi
   |_,_=>false) &&
  ((List.range i).all fun j=>p j|| (b.getD i 0).testBit j))
structure Mix (ops:Array Oper) (p:Nat→Bool) (g:Bool) (b:Array Nat):Prop where
 sel:∀(j:Nat) (o:Oper) cs bl,ops[j]? =some o→o.op≠ .select cs bl
 back:∀(i:Nat) o,ops[i]? =some o→∀e∈o.after,Region.binds .any e=true→e.on < i
 dep:∀(i:Nat) o,ops[i]? =some o→∀j,(b.getD i 0).testBit j=true→j < ops.size→∃e∈o.after,Region.binds .any e=true∧(e.on=j∨(b.getD e.on 0).testBit j=true)
 heads:∀i j oi oj,p i=true→p j=true→j < i→ops[i]? =some oi→ops[j]? =some oj→(∃e∈oi.after,Region.binds .any e=true∧e.on=j)∨oj.apart ops oi=true
 tails:∀i j oi oj,p i=false→p j=true→ops[i]? =some oi→ops[j]? =some oj→(b.getD i 0).testBit j=true∨((aOp oi.op=true∨pOp oj.op=true∨(g=true∧gAt ops i=true))∧oj.apart ops oi=true)
 chain:∀i j,p i=false→p j=false→j < i→i < ops.size→(b.getD i 0).testBit j=true
theorem mix_of {p:Nat→Bool} {g:Bool} (h:mixB ops p g=true):Mix ops p g (Region.before ops):=by
 unfold mixB at h
 simp only [Bool.and_eq_true] at h
 obtain ⟨⟨⟨hsel,hdep⟩,hheads⟩,htails⟩:=h
 have hlt:∀(i:Nat) o,ops[i]? =some o→i < ops.size:=fun i o ho=>(Array.getElem?_eq_some_iff.1 ho).1
 have hd:∀(i:Nat) o,ops[i]? =some o→_:=fun i o ho=>by
  have:=List.all_eq_true.1 hdep i (List.mem_range.2 (hlt i o ho))
  rw [ho] at this
  exact this
 refine ⟨Region.noSelect_spec hsel,fun i o ho e he hb=>?_,fun i o ho j hj hjs=>?_,fun i j oi oj hi hpj hj hoi hoj=>?_,fun i j oi oj hi hj hoi hoj=>?_,fun i j hpi hj hji hi=>?_⟩
 ·have h1:=hd i o ho
  simp only [Bool.and_eq_true] at h1
  have h2:=List.all_eq_true.1 h1.1 e (Array.mem_toList_iff.2 he)
  rw [hb] at h2
  simp only [Bool.not_true,Bool.false_or,Bool.and_eq_true] at h2
  have h3:=h2.1
  rw [Nat.blt_eq] at h3
  exact h3
 ·have h1:=hd i o ho
  simp only [Bool.and_eq_true] at h1
  have h2:=List.all_eq_true.1 h1.2 j (List.mem_range.2 hjs)
  rw [hj] at h2
  simp only [Bool.not_true,Bool.false_or] at h2
  obtain ⟨e,he,h3⟩:=List.any_eq_true.1 h2
  simp only [Bool.and_eq_true,Bool.or_eq_true,beq_iff_eq] at h3
  exact ⟨e,Array.mem_toList_iff.1 he,h3.1,h3.2⟩
 ·have h0:=List.all_eq_true.1 hheads i (List.mem_range.2 (hlt i oi hoi))
  rw [hi,Bool.not_true,Bool.false_or] at h0
  have h1:=List.all_eq_true.1 h0 j (List.mem_range.2 hj)
  rw [hoi,hoj,hpj,Bool.not_true,Bool.false_or] at h1
  simp only [Bool.or_eq_true] at h1
  rcases h1 with h1|h1
  ·obtain ⟨e,he,h2⟩:=Array.any_eq_true'.1 h1
   simp only [Bool.and_eq_true,beq_iff_eq] at h2
   exact .inl ⟨e,he,h2⟩
  ·exact .inr h1
 ·have h1:=List.all_eq_true.1 htails i (List.mem_range.2 (hlt i oi hoi))
  rw [hi,Bool.false_or] at h1
  simp only [Bool.and_eq_true] at h1
  have h2:=List.all_eq_true.1 h1.1 j (List.mem_range.2 (hlt j oj hoj))
  rw [hoi,hoj,hj,Bool.not_true,Bool.false_or] at h2
  simp only [Bool.or_eq_true,Bool.and_eq_true] at h2
  refine h2.imp id fun ⟨h3,h4⟩=>⟨?_,h4⟩
  rcases h3 with (h3|h3)|h3
  ·exact .inl h3
  ·exact .inr (.inl h3)
  ·exact .inr (.inr ⟨h3.1.1,by unfold gAt;rw [hoi];simp [h3.1.2,h3.2]⟩)
 ·have h1:=List.all_eq_true.1 htails i (List.mem_range.2 hi)
  rw [hpi,Bool.false_or] at h1
  simp only [Bool.and_eq_true] at h1
  have h2:=List.all_eq_true.1 h1.2 j (List.mem_range.2 hji)
  rw [hj,Bool.false_or] at h2
  exact h2
theorem mix_any {p:Nat→Bool} {g:Bool} {b:Array Nat} (M:Mix ops p g b) (hP:∀c a w,¬Q (.panic c) a w):∀(fuel:Nat) (listed:Array Bool) (hs ts:List Nat) (a:Act) (w:World),
  listed.size=ops.size→hs.length+ts.length≤fuel→hs.Pairwise (· < ·)→ts.Pairwise (· < ·)→(∀i,i < ops.size→(listed.getD i true=false↔i∈hs∨i∈ts))→(∀i∈hs,p i=true∧i < ops.size)→(∀i∈ts,p i=false∧i < ops.size)→
  (∀x y,listed.getD x false=true→x < ops.size→(b.getD x 0).testBit y=true→y < ops.size→listed.getD y false=true)→
  He P ops w (fun a'=>wpG P ops Q g ts a' w) hs a→wpAny P .any ops Q fuel listed a w:=by
 intro fuel
 induction fuel with
 |zero=>
  intro listed hs ts a w hsz hf _ _ hun _ _ _ h
  obtain ⟨h1,h2⟩:hs= []∧ts= []:=by
   constructor<;>exact List.eq_nil_of_length_eq_zero (by omega)
  subst h1 h2
  refine ⟨?_,h⟩
  rw [List.eq_nil_iff_forall_not_mem]
  intro i hi
  obtain ⟨h0,o,ho,_⟩:=mem_ready.1 hi
  have:=(hun i (Array.getElem?_eq_some_iff.1 ho).1).1 h0
  simp at this
 |succ fuel ih=>
  intro listed hs ts a w hsz hf hpw hpt hun hhs hts hcl h
  have hlist:∀i,i < ops.size→(listed.getD i true=false)→listed.getD i false=false:=fun i hi h0=>getD_both h0
  refine ⟨fun hr=>?_,fun i hi=>?_⟩
  ·
   have hempty:∀x,x∉hs++ts:=by
    intro x hx
    have key:∀m x,x=m→x∈hs++ts→False:=by
     intro m
     induction m using Nat.strongRecOn with
     |_ m ihm=>
      intro x hxm hx
      have hxl:x < ops.size:=by
       rcases List.mem_append.1 hx with h1|h1
       ·exact (hhs x h1).2
       ·exact (hts x h1).2
      have hxo:ops[x]? =some ops[x]:=Array.getElem?_eq_getElem hxl
      have:x∈Region.ready .any ops listed:=by
       refine mem_ready.2 ⟨(hun x hxl).2 (List.mem_append.1 hx),ops[x],hxo,fun e he hb=>?_⟩
       have hlt:=M.back x _ hxo e he hb
       cases hle:listed.getD e.on false with
       |true=>rfl
       |false=>
        have hel:e.on < ops.size:=by omega
        have hun':listed.getD e.on true=false:=getD_in (by omega) hle
        exact (ihm e.on (by omega) e.on rfl (List.mem_append.2 ((hun e.on hel).1 hun'))).elim
      rw [hr] at this
      cases this
    exact key x x rfl hx
   have h1:hs= []:=List.eq_nil_iff_forall_not_mem.2 fun x hx=>hempty x (List.mem_append.2 (.inl hx))
   have h2:ts= []:=List.eq_nil_iff_forall_not_mem.2 fun x hx=>hempty x (List.mem_append.2 (.inr hx))
   subst h1 h2
   exact h
  ·obtain ⟨h0,oi,hoi,hall⟩:=mem_ready.1 hi
   have hil:i < ops.size:=(Array.getElem?_eq_some_iff.1 hoi).1
   have hdep:∀y,(b.getD i 0).testBit y=true→y < ops.size→listed.getD y false=true:=fun y hy hys=>by
    obtain ⟨e,he,hb,h1⟩:=M.dep i oi hoi y hy hys
    have h2:=hall e he hb
    rcases h1 with rfl|h1
    ·exact h2
    ·have:=M.back i oi hoi e he hb
     exact hcl e.on y h2 (by omega) h1 hys
   have hcl':∀x y,(listed.setIfInBounds i true).getD x false=true→x < ops.size→(b.getD x 0).testBit y=true→y < ops.size→(listed.setIfInBounds i true).getD y false=true:=fun x y hx hxs hy hys=>by
    by_cases hxi:i=x
    ·subst hxi;exact getD_set_true (hdep y hy hys)
    ·rw [getD_set_ne false hxi] at hx
     exact getD_set_true (hcl x y hx hxs hy hys)
   have hsz':(listed.setIfInBounds i true).size=ops.size:=by simp [hsz]
   have hset:∀x,x < ops.size→((listed.setIfInBounds i true).getD x true=false↔listed.getD x true=false∧x≠i):=fun x hx=>by
    by_cases hxi:i=x
    ·subst hxi
     have:i < listed.size:=by omega
     simp [this]
    ·rw [getD_set_ne true hxi]
     exact ⟨fun h=>⟨h,fun e=>hxi e.symm⟩,fun h=>h.1⟩
   rcases (hun i hil).1 h0 with hm|hm
   ·
    obtain ⟨pre,post,rfl⟩:=List.append_of_mem hm
    have hpw':=hpw
    rw [List.pairwise_append] at hpw'
    have hlt:∀j∈pre,j < i:=fun j hj=>hpw'.2.2 j hj i (by simp)
    have hap:∀j∈pre,∀oj,ops[j]? =some oj→oj.apart ops oi=true:=fun j hj oj hoj=>by
     rcases M.heads i j oi oj (hhs i hm).1 (hhs j (by simp [hj])).1 (hlt j hj) hoi hoj with ⟨e,he,hb,rfl⟩|h1
     ·have h2:=hall e he hb
      have h3:=(hun e.on (Array.getElem?_eq_some_iff.1 hoj).1).2 (.inl (by simp [hj]))
      rw [getD_both h3] at h2
      cases h2
     ·exact h1
    obtain ⟨v,hy,hr⟩:=He.front M.sel hoi post pre a hap h
    have hK:wpAny P .any ops Q fuel (listed.setIfInBounds i true) (a.put oi.dst v) w:=by
     have hsub:(pre++post).Sublist (pre++i::post):=List.Sublist.append_left (List.sublist_cons_self _ _) _
     have hni:i∉pre++post++ts:=by
      intro hx
      rcases List.mem_append.1 hx with h1|h1
      ·rcases List.mem_append.1 h1 with h1|h1
       ·have:=hlt i h1;omega
       ·have h2:=hpw'.2.1
        rw [List.pairwise_cons] at h2
        have:=h2.1 i h1
        omega
      ·have h2:=(hhs i hm).1
       rw [(hts i h1).1] at h2
       cases h2
     refine ih _ (pre++post) ts _ w hsz' (by simp at hf ⊢;omega) (hpw.sublist hsub) hpt (fun x hx=>?_) (fun x hx=>hhs x (by rcases List.mem_append.1 hx with h1|h1<;>simp [h1])) hts hcl' hr
     rw [hset x hx,hun x hx]
     constructor
     ·rintro ⟨h1|h1,h2⟩
      ·left
       rcases List.mem_append.1 h1 with h3|h3
       ·simp [h3]
       ·rcases List.mem_cons.1 h3 with h4|h4
        ·exact (h2 h4).elim
        ·simp [h4]
      ·exact .inr h1
     ·intro h1
      refine ⟨h1.imp (fun h2=>by rcases List.mem_append.1 h2 with h3|h3<;>simp [h3]) id,fun e=>?_⟩
      subst e
      exact hni (List.mem_append.2 h1)
    unfold wpOp
    simp only [hoi]
    rcases hy with ⟨hw,hv⟩|⟨hw,rfl⟩
    ·rw [if_pos hw]
     refine .inl ?_
     unfold Oper.wp
     rw [hv w (Chg.refl _ _)]
     exact hK
    ·rw [if_neg (by rw [hw];simp)]
     exact hK
   ·
    obtain ⟨hni,_⟩:=hts i hm
    obtain ⟨ts',rfl⟩:∃ts',ts=i::ts':=by
     cases ts with
     |nil=>cases hm
     |cons j ts'=>
      by_cases hij:i=j
      ·subst hij;exact ⟨ts',rfl⟩
      ·have h1:i∈ts':=(List.mem_cons.1 hm).resolve_left hij
       have h2:=(List.pairwise_cons.1 hpt).1 i h1
       have hjm:=hts j (by simp)
       have h3:=hdep j (M.chain i j hni hjm.1 h2 hil) hjm.2
       have h4:=(hun j hjm.2).2 (.inr (by simp))
       rw [getD_both h4] at h3
       cases h3
    have hnx:i∉hs∧i∉ts':=by
     constructor
     ·intro h1
      have h2:=(hhs i h1).1
      rw [hni] at h2
      cases h2
     ·intro h1
      have:=(List.pairwise_cons.1 hpt).1 i h1
      omega
    have next:∀a1 w1,He P ops w1 (fun a'=>wpG P ops Q g ts' a' w1) hs a1→wpAny P .any ops Q fuel (listed.setIfInBounds i true) a1 w1:=fun a1 w1 hh=>by
     refine ih _ hs ts' a1 w1 hsz' (by simp at hf;omega) hpw (List.pairwise_cons.1 hpt).2 (fun x hx=>?_) hhs (fun x hx=>hts x (by simp [hx])) hcl' hh
     rw [hset x hx,hun x hx]
     constructor
     ·rintro ⟨h1|h1,h2⟩
      ·exact .inl h1
      ·exact .inr ((List.mem_cons.1 h1).resolve_left h2)
     ·rintro (h1|h1)
      ·exact ⟨.inl h1,fun e=>hnx.1 (e▸h1)⟩
      ·exact ⟨.inr (by simp [h1]),fun e=>hnx.2 (e▸h1)⟩
    cases hs with
    |nil=>
     have h1:wpG P ops Q g (i::ts') a w:=h
     unfold wpG at h1
     exact wpOp_mono (fun a1 w1 h2=>next a1 w1 h2.2) h1
    |cons j0 hs0=>
     have hA:∀j∈j0::hs0,∀oj,ops[j]? =some oj→(aOp oi.op=true∨pOp oj.op=true∨(g=true∧gAt ops i=true))∧oj.apart ops oi=true:=fun j hj oj hoj=>by
      have hjn:=hhs j hj
      rcases M.tails i j oi oj hni hjn.1 hoi hoj with h1|h1
      ·have hjs:j < ops.size:=hjn.2
       have h2:=hdep j h1 hjs
       have h3:=(hun j hjs).2 (.inl hj)
       rw [getD_both h3] at h2
       cases h2
      ·exact h1
     have h1:He P ops w (fun a'=>wpOp P ops Q i (fun a1 w1=>(g=true→gAt ops i=true→CD a' w a1 w1)∧wpG P ops Q g ts' a1 w1) a' w) (j0::hs0) a:=h
     cases hAi:aOp oi.op with
     |true=>
      have h2:=He.alloc M.sel hP hoi (wpG P ops Q g ts') (j0::hs0) a (fun j hj oj hoj=>(hA j hj oj hoj).2) (He.mono (fun a' h2=>wpOp_aOp hP hoi hAi (wpOp_mono (fun a1 w1 h3=>h3.2) h2)) _ _ h1)
      exact wpOp_mono (fun a1 w1 h3=>next a1 w1 h3.2) h2
     |false=>
      cases hGi:g && gAt ops i with
      |true=>
       simp only [Bool.and_eq_true] at hGi
       have h2:=He.alloc M.sel hP hoi (wpG P ops Q g ts') (j0::hs0) a (fun j hj oj hoj=>(hA j hj oj hoj).2) (He.mono (fun a' h2=>wpOp_mono (fun a1 w1 h3=>⟨h3.1 hGi.1 hGi.2,h3.2⟩) h2) _ _ h1)
       exact wpOp_mono (fun a1 w1 h3=>next a1 w1 h3.2) h2
      |false=>
       have h2:=He.tail M.sel hP hoi (wpG P ops Q g ts') (j0::hs0) a (fun j hj oj hoj=>⟨((hA j hj oj hoj).1.resolve_left (by rw [hAi];simp)).resolve_right (fun hh=>by simp [hh.1,hh.2] at hGi),(hA j hj oj hoj).2⟩) (He.mono (fun a' h2=>wpOp_mono (fun a1 w1 h3=>h3.2) h2) _ _ h1)
       exact wpOp_mono (fun a1 w1 h3=>next a1 w1 h3) h2
end
def at_ (ops:Array Oper) (l:List Nat):List Oper:=l.filterMap fun i=>ops[i]?
theorem wpOps_at {P:Program} {ops:Array Oper} {Q:Exit→Act→World→Prop}:∀(l:List Nat) (a:Act) (w:World),(∀j∈l,j < ops.size)→wpOps P ops Q l a w=wpList P ops Q (at_ ops l) a w:=by
 intro l
 induction l with
 |nil=>intro a w _;simp [wpOps,wpList,at_]
 |cons i l ih=>
  intro a w h
  have hk:i < ops.size:=h i (by simp)
  have ho:ops[i]? =some ops[i]:=Array.getElem?_eq_getElem hk
  have e0:at_ ops (i::l)=ops[i]::at_ ops l:=by simp [at_,ho]
  have ih':wpOps P ops Q l=wpList P ops Q (at_ ops l):=by
   funext a w
   exact ih a w fun j hj=>h j (by simp [hj])
  rw [e0]
  simp only [wpOps,ho,wpList,ih']
theorem wpG_of {P:Program} {ops:Array Oper} {Q:Exit→Act→World→Prop}:∀(l:List Nat) (a:Act) (w:World),wpOps P ops Q l a w→wpG P ops Q false l a w
 | [],_,_,h=>h
 |i::r,a,w,h=>by
  rw [wpOps_cons] at h
  exact wpOp_mono (fun a1 w1 h1=>⟨fun e=>(by cases e),wpG_of r a1 w1 h1⟩) h
def xlgF (T:Tb) (P:Program) (n:Nat) (ops:Array Oper) (o:Oper) (ih:Env→World→Prop) (e:Env) (w:World):Prop:=
 bif gOp o.op && o.guard.isNone then xo T P (ev n e) o w fun v w'=>Cn (Chg N0 w w') (fcv v fun v=>ih (eup e o.dst v) w')
  else xl0 T P n ops ih [o] e w
def xlg (T:Tb) (P:Program) (n:Nat) (ops:Array Oper) (K:Env→World→Prop) (l:List Oper):Env→World→Prop:=
 List.rec (motive:=fun _=>Env→World→Prop) K (fun o _ ih=>xlgF T P n ops o ih) l
theorem xlg_cons {T:Tb} {P:Program} {n:Nat} {ops:Array Oper} {K:Env→World→Prop} {o:Oper} {rest:List Oper} {e:Env} {w:World}:xlg T P n ops K (o::rest) e w=xlgF T P n ops o (xlg T P n ops K rest) e w:=rfl
theorem xl_one {P:Program} {T:Tb} (hT:TabOk P T) {n:Nat} {ops:Array Oper} {K:Env→World→Prop} {Q:Exit→Act→World→Prop} {next:Act→World→Prop} {o:Oper} {e:Env} {a:Act} {w:World} (hn:∀e' a' w',Rel n e' a'→K e' w'→next a' w') (hr:Rel n e a) (h:xl0 T P n ops K [o] e w):
  if Region.wanted o (yielded ops a.tmps) then o.wp P a w next Q∨(o.asks P a w∧LetsOut Q) else next (a.put o.dst undef) w:=by
 rw [xl0_cons] at h
 unfold xl0F at h
 split at h
 ·rename_i hg
  rw [if_pos (by simp [Region.wanted,hg])]
  exact .inl (gen_wp hr (xo_sound hT h) fun v w' hx=>hn _ _ _ (hr.put _ _) (by rw [fcv_eq] at hx;exact hx))
 ·rename_i j want hg
  have skip:∀e',Rel n e' a→Region.wanted o (yielded ops a.tmps)=false→K (eup e' o.dst undef) w→if Region.wanted o (yielded ops a.tmps) then o.wp P a w next Q∨(o.asks P a w∧LetsOut Q) else next (a.put o.dst undef) w:=fun e' hr' hw hx=>by
   rw [if_neg (by rw [hw];simp)]
   exact hn _ _ _ (hr'.put _ _) hx
  have run:∀e',Rel n e' a→Region.wanted o (yielded ops a.tmps)=true→xo T P (ev n e') o w (fun v w'=>fcv v fun v=>K (eup e' o.dst v) w')→if Region.wanted o (yielded ops a.tmps) then o.wp P a w next Q∨(o.asks P a w∧LetsOut Q) else next (a.put o.dst undef) w:=fun e' hr' hw hx=>by
   rw [if_pos hw]
   exact .inl (gen_wp hr' (xo_sound hT hx) fun v w' hy=>hn _ _ _ (hr'.put _ _) (by rw [fcv_eq] at hy;exact hy))
  split at h
  ·rename_i hs
   refine skip e hr ?_ h
   have:(ops[j]?).bind (·.dst)=none:=by
    unfold gslot at hs
    cases ho:ops[j]? with
    |none=>rfl
    |some o=>rw [ho] at hs;simpa using hs
   simp [Region.wanted,hg,yielded,this]
  ·rename_i d hs
   have hy:=yielded_ev hr hs
   split at h
   ·rename_i t ht
    rw [ht] at hy
    have rt:t=true→Rel n (eup e (some d) (.bool true)) a:=fun e1=>hr.same (by rw [ht,e1])
    have rf:t=false→Rel n (eup e (some d) (.bool false)) a:=fun e1=>hr.same (by rw [ht,e1])
    split at h
    ·cases t with
     |true=>exact run _ (rt rfl) (by simp [Region.wanted,hg,hy]) (h.1 rfl)
     |false=>exact skip _ (rf rfl) (by simp [Region.wanted,hg,hy]) (h.2 rfl)
    ·cases t with
     |true=>exact skip _ (rt rfl) (by simp [Region.wanted,hg,hy]) (h.1 rfl)
     |false=>exact run _ (rf rfl) (by simp [Region.wanted,hg,hy]) (h.2 rfl)
   ·rename_i vs ht
    rw [ht] at hy
    exact skip e hr (by simp [Region.wanted,hg,hy]) h
   ·exact h.elim
theorem xlg_sound {P:Program} {T:Tb} (hT:TabOk P T) {n:Nat} {ops:Array Oper} {K:Env→World→Prop} {Q:Exit→Act→World→Prop} (hQ:∀e a w,Rel n e a→K e w→Q .normal a w):∀(l:List Nat) (e:Env) (a:Act) (w:World),(∀j∈l,j < ops.size)→Rel n e a→xlg T P n ops K (at_ ops l) e w→wpG P ops Q true l a w
 | [],e,a,w,_,hr,h=>hQ _ _ _ hr h
 |i::r,e,a,w,hl,hr,h=>by
  have hk:i < ops.size:=hl i (by simp)
  have ho:ops[i]? =some ops[i]:=Array.getElem?_eq_getElem hk
  have e0:at_ ops (i::r)=ops[i]::at_ ops r:=by simp [at_,ho]
  have ih:=fun e a w=>xlg_sound hT (n:=n) hQ r e a w fun j hj=>hl j (by simp [hj])
  rw [e0] at h
  rw [xlg_cons] at h
  unfold xlgF at h
  unfold wpG wpOp
  simp only [ho]
  cases hg:gOp ops[i].op && ops[i].guard.isNone with
  |true=>
   rw [hg] at h
   simp only [cond_true] at h
   have hgn:ops[i].guard=none:=by
    simp only [Bool.and_eq_true,Option.isNone_iff_eq_none] at hg
    exact hg.2
   rw [if_pos (by simp [Region.wanted,hgn])]
   exact .inl (gen_wp hr (xo_sound hT h) fun v w' hx=>⟨fun _ _=>⟨hx.1,put_defers _ _ _⟩,ih _ _ _ (hr.put _ _) (by have h2:=hx.2;rw [fcv_eq] at h2;exact h2)⟩)
  |false=>
   rw [hg] at h
   simp only [cond_false] at h
   have hng:gAt ops i=false:=by unfold gAt;rw [ho];exact hg
   exact xl_one hT (fun e1 a1 w1 hr1 hx1=>⟨fun _ hh=>(by rw [hng] at hh;cases hh),ih _ _ _ hr1 hx1⟩) hr h
theorem dr_mix {P:Program} {T:Tb} (hT:TabOk P T) {n:Nat} {id:Nat} {l:List Oper} {K:Exit→Env→World→Prop} {e:Env} {w:World} (p:Nat→Bool) (g:Bool) (tl:List Oper) (hm:P.follows .mixedOrders=true) (hB:mixB l.toArray p g=true) (htl:at_ l.toArray ((List.range l.length).filter fun i=> !p i)=tl)
  (h:∀(K':Act→Prop) (a:Act),Rel n e a→(∀e' a',Rel n e' a'→(bif g then xlg T P n l.toArray (fun e w=>K .normal e w) tl e' w.drew else xl0 T P n l.toArray (fun e w=>K .normal e w) tl e' w.drew)→K' a')→He P l.toArray w.drew K' ((List.range l.length).filter p) a):Dr P n (.region id l.toArray true) K e w:=by
 refine dr_of fun rr a hfl hr=>?_
 have M:=mix_of hB
 refine Code.wpIn_mono (Q:=QX n (fun ex e w=>match ex with| .panic _=>False| .outgrown=>False|ex=>K ex e w)) ?_ ?_
 ·rintro ex a' w' ⟨e',hr',hk⟩
  cases ex<;>first
   |exact ⟨e',hr',hk⟩
   |exact hk.elim
 have hin:∀q:Nat→Bool,∀i∈(List.range l.length).filter q,q i=true∧i < l.length:=fun q i hi=>by
  have:=List.mem_filter.1 hi
  exact ⟨this.2,List.mem_range.1 this.1⟩
 have hlen:∀l:List Nat,(l.filter p).length+(l.filter fun i=> !p i).length=l.length:=fun l=>by
  induction l with
  |nil=>rfl
  |cons x r ih=>cases hx:p x<;>simp [hx]<;>omega
 refine region_in hfl (fun _ _ ⟨_,_,h⟩=>h) hm (mix_any M (fun c a w ⟨e,_,hk⟩=>hk) _ _ ((List.range l.length).filter p) ((List.range l.length).filter fun i=> !p i) a _ (by simp) (by have:=hlen (List.range l.length);simp at this ⊢;omega)
  (List.pairwise_lt_range.sublist List.filter_sublist) (List.pairwise_lt_range.sublist List.filter_sublist) (fun i hi=>?_) (fun i hi=>by simpa using hin p i hi) (fun i hi=>by simpa using hin (fun i=> !p i) i hi) (fun x y hx=>?_) ?_)
 ·have hi':i < l.length:=by simpa using hi
  constructor
  ·intro _
   cases hp:p i with
   |true=>exact .inl (List.mem_filter.2 ⟨List.mem_range.2 hi',hp⟩)
   |false=>exact .inr (List.mem_filter.2 ⟨List.mem_range.2 hi',by simp [hp]⟩)
  ·intro _
   simp [hi']
 ·rw [getD_replicate_false] at hx;cases hx
 ·exact h _ a hr fun e' a' hr' hx=>by
   cases g with
   |true=>
    rw [←htl] at hx
    exact xlg_sound hT (K:=fun e w=>K .normal e w) (fun e a w hr hk=>⟨e,hr,hk⟩) _ _ _ _ (fun j hj=>by simpa using (hin _ j hj).2) hr' hx
   |false=>
    refine wpG_of _ _ _ ?_
    rw [wpOps_at _ _ _ fun j hj=>by simpa using (hin _ j hj).2,htl]
    exact xl0_sound hT (K:=fun ex e w=>match ex with| .panic _=>False| .outgrown=>False|ex=>K ex e w) _ _ _ _ hr' hx
def isRd:Op→Bool
 | .move _| .assign _| .pick .. | .load .. | .nilCheck _| .fieldAddr .. | .extract .. | .binOp .. | .unOp .. | .lookup .. | .indexAddr .. | .convert .. | .slice .. | .sliceToArrayPointer .. | .index .. | .field .. =>true
 | .call {callee:= .builtin .len, .. }| .call {callee:= .builtin .cap, .. }| .call {callee:= .builtin .min, .. }| .call {callee:= .builtin .max, .. }=>true
 |_=>false
def indep (o:Oper):List Nat→Bool
 | []=>true
 |j::r=>o.after.toList.all (fun e=> !Region.binds .any e|| !Nat.beq e.on j) && indep o r
def heads:List Oper→Nat→List Nat→List Bool
 | [],_,_=> []
 |o::r,i,ts=>bif isRd o.op && indep o ts then true::heads r (i+1) ts else false::heads r (i+1) (i::ts)
def xrsF (T:Tb) (P:Program) (n:Nat) (ops:Array Oper) (w:World) (o:Oper) (ih:Nat→List Nat→List Oper→Env→Prop) (i:Nat) (ts:List Nat) (tl:List Oper) (e:Env):Prop:=
 bif isRd o.op && indep o ts then (match o.guard with
  |none=>xr T P (ev n e) o w fun v=>fcv v fun v=>ih (i+1) ts tl (eup e o.dst v)
  |some (j,want)=>match gslot ops j with
   |none=>ih (i+1) ts tl (eup e o.dst undef)
   |some d=>match ev n e (.tmp d) with
    | .bool t=>
     match want with
     |true=>Br t (xr T P (ev n (eup e (some d) (.bool true))) o w fun v=>fcv v fun v=>ih (i+1) ts tl (eup (eup e (some d) (.bool true)) o.dst v)) (ih (i+1) ts tl (eup (eup e (some d) (.bool false)) o.dst undef))
     |false=>Br t (ih (i+1) ts tl (eup (eup e (some d) (.bool true)) o.dst undef)) (xr T P (ev n (eup e (some d) (.bool false))) o w fun v=>fcv v fun v=>ih (i+1) ts tl (eup (eup e (some d) (.bool false)) o.dst v))
    | .tuple _=>ih (i+1) ts tl (eup e o.dst undef)
    |_=>False) else ih (i+1) (i::ts) (o::tl) e
def xrs (T:Tb) (P:Program) (n:Nat) (ops:Array Oper) (w:World) (K:List Oper→Env→Prop) (l:List Oper):Nat→List Nat→List Oper→Env→Prop:=
 List.rec (motive:=fun _=>Nat→List Nat→List Oper→Env→Prop) (fun _ _ tl e=>K tl.reverse e) (fun o _ ih=>xrsF T P n ops w o ih) l
theorem xrs_cons {T:Tb} {P:Program} {n:Nat} {ops:Array Oper} {w:World} {K:List Oper→Env→Prop} {o:Oper} {rest:List Oper} {i:Nat} {ts:List Nat} {tl:List Oper} {e:Env}:xrs T P n ops w K (o::rest) i ts tl e=xrsF T P n ops w o (xrs T P n ops w K rest) i ts tl e:=rfl
def sel (b:Bool):List Bool→List Oper→List Oper
 |f::fs,o::r=>if f=b then o::sel b fs r else sel b fs r
 |_,_=> []
theorem heads_length:∀(l:List Oper) (i:Nat) (ts:List Nat),(heads l i ts).length=l.length
 | [],_,_=>rfl
 |o::r,i,ts=>by
  unfold heads
  cases isRd o.op && indep o ts<;>simp [heads_length r]
def hix:List Oper→Nat→List Nat→List Nat
 | [],_,_=> []
 |o::r,i,ts=>bif isRd o.op && indep o ts then i::hix r (i+1) ts else hix r (i+1) (i::ts)
theorem xrs_sound {P:Program} {T:Tb} (hT:TabOk P T) {n:Nat} {ops:Array Oper} {w:World} {K:List Oper→Env→Prop} {K':Act→Prop} (tlf:List Oper) (hK:∀e a,Rel n e a→K tlf e→K' a):∀(l:List Oper) (k:Nat) (ts:List Nat) (tl:List Oper) (e:Env) (a:Act),(∀j,j < l.length→ops[k+j]? =l[j]?)→tl.reverse++sel false (heads l k ts) l=tlf→Rel n e a→xrs T P n ops w K l k ts tl e→He P ops w K' (hix l k ts) a
 | [],k,ts,tl,e,a,_,hf,hr,h=>hK e a hr (by simp [sel,heads] at hf;subst hf;exact h)
 |o::rest,k,ts,tl,e,a,hops,hf,hr,h=>by
  have ho:ops[k]? =some o:=by simpa using hops 0 (by simp)
  have hrest:∀j,j < rest.length→ops[k+1+j]? =rest[j]? :=fun j hj=>by
   have:=hops (j+1) (by simpa using hj)
   rw [show k+(j+1)=k+1+j by omega] at this
   simpa using this
  rw [xrs_cons] at h
  unfold xrsF at h
  unfold hix
  unfold heads at hf
  cases hb:(isRd o.op && indep o ts) with
  |false=>
   rw [hb] at h hf
   simp only [cond_false] at h hf ⊢
   refine xrs_sound hT tlf hK rest (k+1) (k::ts) (o::tl) e a hrest ?_ hr h
   rw [←hf]
   simp [sel]
  |true=>
  rw [hb] at h hf
  simp only [cond_true] at h hf ⊢
  replace hf:tl.reverse++sel false (heads rest (k+1) ts) rest=tlf:=by rw [←hf];simp [sel]
  have run:∀e',Rel n e' a→Region.wanted o (yielded ops a.tmps)=true→xr T P (ev n e') o w (fun v=>fcv v fun v=>xrs T P n ops w K rest (k+1) ts tl (eup e' o.dst v))→He P ops w K' (k::hix rest (k+1) ts) a:=fun e' hr' hw hx=>by
   obtain ⟨v,hv,hx⟩:=xr_sound hT hx
   rw [fcv_eq] at hx
   refine ⟨o,v,ho, .inl ⟨hw,fun w' hc=>?_⟩,xrs_sound hT tlf hK rest (k+1) ts tl _ _ hrest hf (hr'.put _ _) hx⟩
   rw [hr'.evals]
   exact hv w' hc
  have skip:∀e',Rel n e' a→Region.wanted o (yielded ops a.tmps)=false→xrs T P n ops w K rest (k+1) ts tl (eup e' o.dst undef)→He P ops w K' (k::hix rest (k+1) ts) a:=fun e' hr' hw hx=>
   ⟨o,undef,ho, .inr ⟨hw,rfl⟩,xrs_sound hT tlf hK rest (k+1) ts tl _ _ hrest hf (hr'.put _ _) hx⟩
  split at h
  ·rename_i hg
   exact run e hr (by simp [Region.wanted,hg]) h
  ·rename_i j want hg
   split at h
   ·rename_i hs
    refine skip e hr ?_ h
    have:(ops[j]?).bind (·.dst)=none:=by
     unfold gslot at hs
     cases ho:ops[j]? with
     |none=>rfl
     |some o=>rw [ho] at hs;simpa using hs
    simp [Region.wanted,hg,yielded,this]
   ·rename_i d hs
    have hy:=yielded_ev hr hs
    split at h
    ·rename_i t ht
     rw [ht] at hy
     have rt:t=true→Rel n (eup e (some d) (.bool true)) a:=fun e1=>hr.same (by rw [ht,e1])
     have rf:t=false→Rel n (eup e (some d) (.bool false)) a:=fun e1=>hr.same (by rw [ht,e1])
     split at h
     ·skip
      cases t with
      |true=>exact run _ (rt rfl) (by simp [Region.wanted,hg,hy]) (h.1 rfl)
      |false=>exact skip _ (rf rfl) (by simp [Region.wanted,hg,hy]) (h.2 rfl)
     ·skip
      cases t with
      |true=>exact skip _ (rt rfl) (by simp [Region.wanted,hg,hy]) (h.1 rfl)
      |false=>exact run _ (rf rfl) (by simp [Region.wanted,hg,hy]) (h.2 rfl)
    ·rename_i vs ht
     rw [ht] at hy
     exact skip e hr (by simp [Region.wanted,hg,hy]) h
    ·exact h.elim
def isHead (l:List Bool) (i:Nat):Bool:=l.getD i false
theorem hix_at:∀(l:List Oper) (k:Nat) (ts:List Nat) (fp:List Bool),fp.length=k→(List.range' k l.length).filter (isHead (fp++heads l k ts))=hix l k ts
 | [],k,ts,fp,_=>rfl
 |o::r,k,ts,fp,hp=>by
  rw [List.length_cons,List.range'_succ,List.filter_cons]
  unfold heads hix
  cases hb:(isRd o.op && indep o ts) with
  |true=>
   simp only [cond_true]
   have hf:isHead (fp++true::heads r (k+1) ts) k=true:=by simp [isHead,←hp]
   have ih:=hix_at r (k+1) ts (fp++ [true]) (by simp [hp])
   rw [List.append_assoc,List.singleton_append] at ih
   rw [hf,ih]
   rfl
  |false=>
   simp only [cond_false]
   have hf:isHead (fp++false::heads r (k+1) (k::ts)) k=false:=by simp [isHead,←hp]
   have ih:=hix_at r (k+1) (k::ts) (fp++ [false]) (by simp [hp])
   rw [List.append_assoc,List.singleton_append] at ih
   rw [hf,ih]
   rfl
theorem sel_at:∀(l pre:List Oper) (fs fp:List Bool),fs.length=l.length→fp.length=pre.length→at_ (pre++l).toArray ((List.range' pre.length l.length).filter fun i=> !isHead (fp++fs) i)=sel false fs l
 | [],pre, [],fp,_,_=>by simp [at_,sel]
 | [],_,_::_,_,h,_=>by simp at h
 |_::_,_, [],_,h,_=>by simp at h
 |o::r,pre,f::fs,fp,h,hp=>by
  have ih:=sel_at r (pre++ [o]) fs (fp++ [f]) (by simpa using h) (by simp [hp])
  simp only [List.append_assoc,List.singleton_append,List.length_append,List.length_singleton] at ih
  have hf:isHead (fp++f::fs) pre.length=f:=by simp [isHead,←hp]
  rw [List.length_cons,List.range'_succ,List.filter_cons,hf]
  cases f with
  |false=>
   simp only [Bool.not_false,if_true,sel,at_,List.filterMap_cons]
   rw [←ih]
   simp [at_]
  |true=>
   simp only [sel,Bool.not_true,Bool.false_eq_true,if_false,reduceCtorEq]
   rw [←ih]
theorem dr_auto {P:Program} {T:Tb} (hT:TabOk P T) {n:Nat} {id:Nat} {l:List Oper} {K:Exit→Env→World→Prop} {e:Env} {w:World} (hm:P.follows .mixedOrders=true) (hB:mixB l.toArray (isHead (heads l 0 [])) false=true)
  (h:xrs T P n l.toArray w.drew (fun tl e'=>xl0 T P n l.toArray (fun e w=>K .normal e w) tl e' w.drew) l 0 [] [] e):Dr P n (.region id l.toArray true) K e w:=by
 have e1:=hix_at l 0 [] [] rfl
 have e2:=sel_at l [] (heads l 0 []) [] (heads_length _ _ _) rfl
 simp only [List.nil_append,List.length_nil,←List.range_eq_range'] at e1 e2
 refine dr_mix hT (isHead (heads l 0 [])) false (sel false (heads l 0 []) l) hm hB e2 fun K' a hr hK=>?_
 rw [e1]
 exact xrs_sound hT _ (fun e a hr h=>hK e a hr h) l 0 [] [] e a (fun j hj=>by simp) rfl hr h
theorem dr_autog {P:Program} {T:Tb} (hT:TabOk P T) {n:Nat} {id:Nat} {l:List Oper} {K:Exit→Env→World→Prop} {e:Env} {w:World} (hm:P.follows .mixedOrders=true) (hB:mixB l.toArray (isHead (heads l 0 [])) true=true)
  (h:xrs T P n l.toArray w.drew (fun tl e'=>xlg T P n l.toArray (fun e w=>K .normal e w) tl e' w.drew) l 0 [] [] e):Dr P n (.region id l.toArray true) K e w:=by
 have e1:=hix_at l 0 [] [] rfl
 have e2:=sel_at l [] (heads l 0 []) [] (heads_length _ _ _) rfl
 simp only [List.nil_append,List.length_nil,←List.range_eq_range'] at e1 e2
 refine dr_mix hT (isHead (heads l 0 [])) true (sel false (heads l 0 []) l) hm hB e2 fun K' a hr hK=>?_
 rw [e1]
 exact xrs_sound hT _ (fun e a hr h=>hK e a hr h) l 0 [] [] e a (fun j hj=>by simp) rfl hr h
section
variable {P : Program} {S : Nat → Prop} {w0 w : World} {rs : List Res} {κ ν : Type} [DecidableEq κ] {enc : κ → Value} {val : ν → Value} {k e t : TypeId} {b : Nat} {l : List (κ × ν)} {ρ : Operand → Value} {o : Oper} {g : Value → Prop}
omit [DecidableEq κ] in
theorem Hp.drew (h:Hp S w0 w rs):Hp S w0 w.drew rs:=h.call0 (Chg.refl _ _).drew
theorem rd_look {m x:Operand} {ok:Bool} (hop:o.op=Op.lookup t m x ok) (h:Hp S w0 w rs) (j:Nat) (hj:rs[j]? =some (mapR enc val b l)) (hm:ρ m= .map (some b)) (KE:KEnc P k enc) (ht:P.underlying t=some (.map k e))
  {z:ν} (hz:zeroOf P e=some (val z)) (c:κ) (hx:ρ x=enc c) (hk:g (if ok then .tuple #[val ((l.lookup c).getD z), .bool (l.lookup c).isSome] else val ((l.lookup c).getD z))):Rd P ρ o w g:=by
 have hM:MapAt enc val w b l:=mapR_ok.1 (h.get hj)
 refine ⟨_,fun w' hc=>?_,hk⟩
 obtain ⟨h1,h2⟩:=(hM.keep0 hc).look KE ht (fun W=>run_zeroOf hz) c
 cases ok
 ·simp [execOp,hop,hm,hx,h2]
 ·simp [execOp,hop,hm,hx,h1]
omit [DecidableEq κ] in
theorem rd_mlen {m:Operand} (hop:o.op=Op.call {callee:= .builtin .len,args:= #[m],argTypes:= #[t]}) (h:Hp S w0 w rs) (j:Nat) (hj:rs[j]? =some (mapR enc val b l)) (hm:ρ m= .map (some b)) (ht:P.underlying t=some (.map k e))
  (hk:g (.int .i64 l.length)):Rd P ρ o w g:=by
 have hM:MapAt enc val w b l:=mapR_ok.1 (h.get hj)
 refine ⟨_,fun w' hc=>?_,hk⟩
 have hrun:=(hM.keep0 hc).len (ty:=o.type) ht
 simp [execOp,hop,resolve,invoke,builtin,hm,hrun]
theorem rd_len {t e:TypeId} {x:Operand} (hop:o.op= .call {callee:= .builtin .len,args:= #[x],argTypes:= #[t]}) {A:Option Addr} {n c:Nat} (hx:ρ x= .slice A n c) (ht:P.underlying t=some (.slice e)) (hk:g (.int .i64 n)):Rd P ρ o w g:=
 ⟨_,fun w' _=>by simp [execOp,hop,resolve,invoke,builtin,Builtin.len_,hx,run_underlying ht,goInt],hk⟩
theorem rd_ix {t:TypeId} {x i:Operand} (hop:o.op= .indexAddr t x i) {b ofs len cap sz n0:Nat} {k:IntKind} {j:Int} (hx:ρ x= .slice (some ⟨b,ofs,none⟩) len cap) (hi:ρ i= .int k j) (he:elemOfT P t=some (true,n0,sz)) (hj:0≤j∧j < len)
  (hk:g (.pointer (some ⟨b,ofs+j.toNat*sz,none⟩))):Rd P ρ o w g:=by
 unfold elemOfT at he
 split at he
 ·rename_i e hs
  split at he
  ·rename_i inf hinf
   simp only [Option.some.injEq,Prod.mk.injEq,true_and] at he
   obtain ⟨_,rfl⟩:=he
   exact ⟨_,fun w' _=>by simp [execOp,hop,hx,hi,Instr.indexAt,asIntOf,run_underlying hs,hj,sizeOf,typeInfo,hinf,add_plain],hk⟩
  ·cases he
 ·rename_i n' e hs
  split at he<;>simp at he
 ·cases he
theorem rd_eqa {op:BinOp} {t t2:TypeId} {x y:Operand} (hop:o.op= .binOp op t x y t2) {xs ys:Array Value} {b:Bool} (hx:ρ x= .agg xs) (hy:ρ y= .agg ys) (he:EqIs P t (.agg xs) (.agg ys) b) (hm:P.eqGuardType P.depth t=false)
  (ho:op= .eql∨op= .neq) (hk:g (.bool (if op= .eql then b else !b))):Rd P ρ o w g:=by
 refine ⟨_,fun w' _=>?_,hk⟩
 have hg:=run_eqGuard_agg (P:=P) (w:=w') op t x y xs ys hm
 have h':=he w'
 rcases ho with rfl|rfl
 ·simp only [execOp,hop,hx,hy,Sem.run_bind,hg,Result.andThen_ok,binOp,h',Sem.run_pure,if_true]
 ·simp only [execOp,hop,hx,hy,Sem.run_bind,hg,Result.andThen_ok,binOp,h',Sem.run_pure,reduceCtorEq,if_false]
end
end Go.Proofs.YtpbapnlnheahnaaGreatDoor
