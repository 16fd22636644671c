/- MImprintBytes1: parts of the proof of ImprintBytes: Base, Law. No condition of their own. -/
import Derived.WalkKit
import Derived.WalkSpells
import Derived.WalkLawsBesides
import Derived.Maps.Keyed
import Derived.Maps.AppendAt
import Derived.Test.YtpbapnlnheahnaaGreatDoorRows
import Derived.ProofKit
import Derived.OpenShut
import Derived.JoinedCond
import Derived.Below
import Derived.ChangeSame
import Derived.ReadAgain
set_option linter.unusedSimpArgs false
set_option linter.unusedVariables false
namespace Go.Proofs.YtpbapnlnheahnaaGreatDoor
open Go.RowKit
structure Chg (S:Nat→Prop) (w w':World):Prop where
 os:w'.os=w.os
 tape:w'.tape=w.tape
 output:w'.output=w.output
 size:w.heap.size≤w'.heap.size
 block:∀k,k < w.heap.size→¬S k→w'.heap[k]? =w.heap[k]?
def N0:Nat→Prop:=fun _=>False
section
variable {S T : Nat → Prop} {w w' w'' : World}
@[simp] theorem Chg.refl (S:Nat→Prop) (w:World):Chg S w w:=⟨rfl,rfl,rfl,Nat.le_refl _,fun _ _ _=>rfl⟩
theorem Chg.mono (h:Chg S w w') (hs:∀k,k < w.heap.size→S k→T k):Chg T w w':=⟨h.os,h.tape,h.output,h.size,fun k hk hn=>h.block k hk (fun hh=>hn (hs k hk hh))⟩
theorem Chg.of0 (h:Chg N0 w w'):Chg S w w':=h.mono fun _ _ hh=>hh.elim
theorem Chg.trans (h:Chg S w w') (h':Chg T w' w'') (hs:∀k,k < w.heap.size→T k→S k):Chg S w w'':=
 ⟨h'.os.trans h.os,h'.tape.trans h.tape,h'.output.trans h.output,Nat.le_trans h.size h'.size,
  fun k hk hn=>(h'.block k (Nat.lt_of_lt_of_le hk h.size) (fun hh=>hn (hs k hk hh))).trans (h.block k hk hn)⟩
theorem Chg.trans0 (h:Chg S w w') (h':Chg N0 w' w''):Chg S w w'':=h.trans h' fun _ _ hh=>hh.elim
theorem Chg.seq (h:Chg S w w') (h':Chg S w' w''):Chg S w w'':=h.trans h' fun _ _ hh=>hh
@[simp] theorem Chg.drew (h:Chg S w w'):Chg S w w'.drew:=⟨h.os,h.tape,h.output,h.size,h.block⟩
@[simp] theorem Chg.drewN (h:Chg S w w') (n:Nat):Chg S w (w'.drewN n):=⟨h.os,h.tape,h.output,h.size,h.block⟩
@[simp] theorem Chg.alloc (h:Chg S w w') (o:Obj):Chg S w (w'.alloc o):=
 ⟨h.os,h.tape,h.output,Nat.le_trans h.size (by simp),fun k hk hn=>(Below.heap_alloc w' o k (Nat.lt_of_lt_of_le hk h.size)).trans (h.block k hk hn)⟩
theorem Chg.setCell (h:Chg S w w') {p:Addr} (hp:w.heap.size≤p.block∨S p.block) (u:Value):Chg S w (w'.setCell p u):=
 ⟨h.os,h.tape,h.output,by simpa [World.setCell] using h.size,fun k hk hn=>(Below.heap_setCell w' p u k (by
  rintro rfl
  rcases hp with hp|hp
  ·omega
  ·exact hn hp)).trans (h.block k hk hn)⟩
theorem Chg.grown {row:Option Nat} (h:Chg S w w') (hg:w'.grownBy w'' row) (hr:∀k,k < w.heap.size→row=some k→S k):Chg S w w'':=
 ⟨hg.os.trans h.os,hg.tape.trans h.tape,hg.output.trans h.output,Nat.le_trans h.size hg.size,
  fun k hk hn=>(hg.block k (Nat.lt_of_lt_of_le hk h.size) (fun e=>hn (hr k hk e.symm))).trans (h.block k hk hn)⟩
theorem Chg.below {B:Nat} (h:Chg S w w') (hs:∀k,S k→B≤k) (hB:B≤w.heap.size):Below B w w':=
 ⟨h.os,h.tape,h.output,h.size,fun k hk=>h.block k (Nat.lt_of_lt_of_le hk hB) (fun hh=>by have:=hs k hh;omega)⟩
theorem Chg.below0 (h:Chg N0 w w'):Below w.heap.size w w':=h.below (fun _ hh=>hh.elim) (Nat.le_refl _)
theorem Chg.heap (h:Chg S w w') {k:Nat} {o:Obj} (hk:w.heap[k]? =some o) (hn:¬S k):w'.heap[k]? =some o:=
 (h.block k (Array.getElem?_eq_some_iff.1 hk).1 hn).trans hk
theorem Chg.heap0 (h:Chg N0 w w') {k:Nat} {o:Obj} (hk:w.heap[k]? =some o):w'.heap[k]? =some o:=h.heap hk (fun hh=>hh)
theorem Chg.cell (h:Chg S w w') {p:Addr} {v:Value} (hc:w.cell? p=some v) (hn:¬S p.block):w'.cell? p=some v:=
 (World.cell?_of_block (h.block p.block (World.block_lt_of_cell? w p hc) hn)).trans hc
theorem Chg.cell0 (h:Chg N0 w w') {p:Addr} {v:Value} (hc:w.cell? p=some v):w'.cell? p=some v:=h.cell hc (fun hh=>hh)
end
theorem heap_lt {w:World} {b:Nat} {o:Obj} (h:w.heap[b]? =some o):b < w.heap.size:=(Array.getElem?_eq_some_iff.1 h).1
structure KEnc (P:Program) (k:TypeId) {κ:Type} (enc:κ→Value):Prop where
 law:Maps.Keyed P k
 reads:∀a,∃l,keyOf P k (enc a)=some l
 inj:∀{a b},enc a=enc b→a=b
section maps
variable {κ ν : Type}
def MapAt (enc:κ→Value) (val:ν→Value) (w:World) (b:Nat) (l:List (κ×ν)):Prop:=
 ∃es clock,w.heap[b]? =some (.map es clock)∧MapKept.Stamped es clock∧es.toList.map (fun e=>(e.key,e.val))=l.map (fun p=>(enc p.1,val p.2))
def mput [DecidableEq κ] (l:List (κ×ν)) (k:κ) (v:ν):List (κ×ν):=
 if k∈l.map (·.1) then l.map (fun p=>if p.1=k then (k,v) else p) else l++ [(k,v)]
def mdel [DecidableEq κ] (l:List (κ×ν)) (k:κ):List (κ×ν):=l.filter (fun p=>p.1≠k)
variable {enc : κ → Value} {val : ν → Value} {w w' : World} {b : Nat} {l : List (κ × ν)} {P : Program} {k : TypeId}
theorem MapAt.lt (h:MapAt enc val w b l):b < w.heap.size:=by
 obtain ⟨es,c,hb,_⟩:=h
 exact heap_lt hb
theorem MapAt.of_heap (h:MapAt enc val w b l) (he:w'.heap[b]? =w.heap[b]?):MapAt enc val w' b l:=by
 obtain ⟨es,c,hb,r⟩:=h
 exact ⟨es,c,he.trans hb,r⟩
theorem MapAt.keep {S:Nat→Prop} (h:MapAt enc val w b l) (hc:Chg S w w') (hn:¬S b):MapAt enc val w' b l:=h.of_heap (hc.block b h.lt hn)
theorem MapAt.keep0 (h:MapAt enc val w b l) (hc:Chg N0 w w'):MapAt enc val w' b l:=h.keep hc (fun hh=>hh)
theorem MapAt.made (enc:κ→Value) (val:ν→Value) (w:World):MapAt enc val (w.alloc (.map #[] 0)) w.heap.size []:=
 ⟨#[],0,(MapKept.heap_alloc w _).1,MapKept.stamped_empty 0,by simp⟩
theorem MapAt.keys (K:KEnc P k enc) {es:Array MapEntry} (he:es.toList.map (fun e=>(e.key,e.val))=l.map (fun p=>(enc p.1,val p.2))):∀e∈es.toList,∃q,keyOf P k e.key=some q:=by
 intro e hm
 have h1:(e.key,e.val)∈l.map (fun p=>(enc p.1,val p.2)):=he▸List.mem_map.2 ⟨e,hm,rfl⟩
 obtain ⟨p,_,hp⟩:=List.mem_map.1 h1
 simp only [Prod.mk.injEq] at hp
 rw [←hp.1]
 exact K.reads _
theorem MapAt.nodup (h:MapAt enc val w b l):(l.map (·.1)).Nodup:=by
 obtain ⟨es,c,_,hs,he⟩:=h
 have h1:es.toList.map (·.key)=l.map (fun p=>enc p.1):=by
  have:=congrArg (List.map Prod.fst) he
  simpa [List.map_map,Function.comp_def] using this
 have h2:=hs.2.2
 rw [h1] at h2
 have h3:(l.map (fun p=>enc p.1))=(l.map (·.1)).map enc:=by simp [List.map_map,Function.comp_def]
 rw [h3] at h2
 exact List.Pairwise.of_map enc (fun a b hab e=>hab (by rw [e])) h2
theorem MapAt.size (h:MapAt enc val w b l):∃es c,w.heap[b]? =some (.map es c)∧es.size=l.length:=by
 obtain ⟨es,c,hb,_,he⟩:=h
 refine ⟨es,c,hb,?_⟩
 have:=congrArg List.length he
 simpa using this
variable [DecidableEq κ]
theorem MapAt.find (K:KEnc P k enc) {es:Array MapEntry} (he:es.toList.map (fun e=>(e.key,e.val))=l.map (fun p=>(enc p.1,val p.2))) (a:κ) (W:World):
  ((Instr.findKey k (enc a) es.toList).run P W= .ok none W∧l.lookup a=none∧a∉l.map (·.1))∨
  ∃j v,(Instr.findKey k (enc a) es.toList).run P W= .ok (some (j,val v)) W∧l[j]? =some (a,v)∧∃e,es.toList[j]? =some e∧e.key=enc a∧e.val=val v:=by
 obtain ⟨q,hq⟩:=K.reads a
 rcases K.law.find W hq es.toList (MapAt.keys K he) with ⟨h1,h2⟩|⟨j,e,h1,h2,h3⟩
 ·have hno:a∉l.map (·.1):=by
   intro hm
   obtain ⟨p,hp,hpa⟩:=List.mem_map.1 hm
   have h4:(enc p.1,val p.2)∈es.toList.map (fun e=>(e.key,e.val)):=he▸List.mem_map.2 ⟨p,hp,rfl⟩
   obtain ⟨e,hem,hee⟩:=List.mem_map.1 h4
   simp only [Prod.mk.injEq] at hee
   exact h2 e hem (by rw [hee.1,hpa])
  refine .inl ⟨h1,?_,hno⟩
  rw [List.lookup_eq_none_iff]
  intro p hp
  rw [bne_iff_ne]
  rintro rfl
  exact hno (List.mem_map.2 ⟨p,hp,rfl⟩)
 ·have h4:(es.toList.map (fun e=>(e.key,e.val)))[j]? =some (e.key,e.val):=by simp [h2]
  rw [he] at h4
  simp only [List.getElem?_map,Option.map_eq_some_iff] at h4
  obtain ⟨p,hp,hpe⟩:=h4
  simp only [Prod.mk.injEq] at hpe
  have hpa:p.1=a:=K.inj (hpe.1.trans h3)
  refine .inr ⟨j,p.2,by rw [hpe.2];exact h1,?_,e,h2,h3,hpe.2.symm⟩
  rw [hp,←hpa]
theorem lookup_of_get {l:List (κ×ν)} (hn:(l.map (·.1)).Nodup) {j:Nat} {a:κ} {v:ν} (h:l[j]? =some (a,v)):l.lookup a=some v:=by
 induction l generalizing j with
 |nil=>simp at h
 |cons p l ih=>
  rw [List.map_cons,List.nodup_cons] at hn
  obtain ⟨x,y⟩:=p
  cases j with
  |zero=>
   simp at h
   simp [List.lookup,h]
  |succ j=>
   simp at h
   have hm:a∈l.map (·.1):=List.mem_map.2 ⟨(a,v),List.mem_of_getElem? h,rfl⟩
   have hne:a≠x:=fun e=>hn.1 (e▸hm)
   have hb:(a==x)=false:=by simp [hne]
   rw [List.lookup_cons,hb]
   exact ih hn.2 h
theorem MapAt.look_none (K:KEnc P k enc) (h:MapAt enc val w b l) {t e:TypeId} (ht:P.underlying t=some (.map k e)) {z:Value} (hz:∀W,(zeroValue e).run P W= .ok z W) {a:κ} (hl:l.lookup a=none) (ok:Bool):
  (Instr.lookup t (.map (some b)) (enc a) ok).run P w= .ok (if ok then .tuple #[z, .bool false] else z) w:=by
 have hn:=h.nodup
 obtain ⟨es,c,hb,hs,he⟩:=h
 obtain ⟨q,hq⟩:=K.reads a
 have hck:=K.law.check w es.isEmpty hq
 rcases MapAt.find K he a w with ⟨h1,h2,_⟩|⟨j,v,h1,h2,_⟩
 ·simp only [Instr.lookup,Sem.run_bind,run_underlying ht,Result.andThen_ok,MapKept.run_getObj_map hb,hck,h1,hz,Sem.run_pure]
 ·rw [lookup_of_get hn h2] at hl
  cases hl
theorem MapAt.look_some (K:KEnc P k enc) (h:MapAt enc val w b l) {t e:TypeId} (ht:P.underlying t=some (.map k e)) {a:κ} {x:ν} (hl:l.lookup a=some x) (ok:Bool):
  (Instr.lookup t (.map (some b)) (enc a) ok).run P w= .ok (if ok then .tuple #[val x, .bool true] else val x) w:=by
 have hn:=h.nodup
 obtain ⟨es,c,hb,hs,he⟩:=h
 obtain ⟨q,hq⟩:=K.reads a
 have hck:=K.law.check w es.isEmpty hq
 rcases MapAt.find K he a w with ⟨h1,h2,_⟩|⟨j,v,h1,h2,_⟩
 ·rw [h2] at hl
  cases hl
 ·rw [lookup_of_get hn h2] at hl
  cases hl
  simp only [Instr.lookup,Sem.run_bind,run_underlying ht,Result.andThen_ok,MapKept.run_getObj_map hb,hck,h1,Sem.run_pure]
theorem MapAt.look (K:KEnc P k enc) (h:MapAt enc val w b l) {t e:TypeId} (ht:P.underlying t=some (.map k e)) {z:ν} (hz:∀W,(zeroValue e).run P W= .ok (val z) W) (a:κ):
  (Instr.lookup t (.map (some b)) (enc a) true).run P w= .ok (.tuple #[val ((l.lookup a).getD z), .bool (l.lookup a).isSome]) w∧
  (Instr.lookup t (.map (some b)) (enc a) false).run P w= .ok (val ((l.lookup a).getD z)) w:=by
 cases hl:l.lookup a with
 |none=>exact ⟨h.look_none K ht hz hl true,h.look_none K ht hz hl false⟩
 |some x=>exact ⟨h.look_some K ht hl true,h.look_some K ht hl false⟩
theorem modify_entry {es:Array MapEntry} (he:es.toList.map (fun e=>(e.key,e.val))=l.map (fun p=>(enc p.1,val p.2))) (hn:(l.map (·.1)).Nodup) {j:Nat} {a:κ} {v u:ν} (h:l[j]? =some (a,v)):
  (es.modify j fun e=>{e with key:=enc a,val:=val u}).toList.map (fun e=>(e.key,e.val))=(l.map (fun p=>if p.1=a then (a,u) else p)).map (fun p=>(enc p.1,val p.2)):=by
 apply List.ext_getElem?
 intro i
 have hi:(es.toList.map (fun e=>(e.key,e.val)))[i]? =(l.map (fun p=>(enc p.1,val p.2)))[i]? :=by rw [he]
 simp only [List.getElem?_map,Array.getElem?_toList] at hi ⊢
 rw [Array.getElem?_modify]
 by_cases hij:j=i
 ·subst hij
  rw [if_pos rfl,h]
  rw [h] at hi
  simp only [Option.map_some] at hi
  obtain ⟨e,h1,_⟩:=Option.map_eq_some_iff.1 hi
  simp [h1]
 ·rw [if_neg hij,hi]
  cases hl:l[i]? with
  |none=>simp
  |some p=>
   have hne:p.1≠a:=by
    intro e
    have h1:(l.map (·.1))[i]? =some a:=by simp [hl,e]
    have h2:(l.map (·.1))[j]? =some a:=by simp [h]
    have l1:i < (l.map (·.1)).length:=(List.getElem?_eq_some_iff.1 h1).1
    have l2:j < (l.map (·.1)).length:=(List.getElem?_eq_some_iff.1 h2).1
    have h3:=(List.getElem?_eq_some_iff.1 h1).2
    have h4:=(List.getElem?_eq_some_iff.1 h2).2
    exact hij ((List.getElem_inj hn).1 (h4.trans h3.symm))
   simp [hne]
theorem MapAt.put (K:KEnc P k enc) (h:MapAt enc val w b l) {t e:TypeId} (ht:P.underlying t=some (.map k e)) (a:κ) (v:ν):
  ∃w',(Instr.mapUpdate t (.map (some b)) (enc a) (val v)).run P w= .ok () w'∧MapAt enc val w' b (mput l a v)∧Chg (fun x=>x=b) w w':=by
 have hn:=h.nodup
 obtain ⟨es,c,hb,hs,he⟩:=h
 obtain ⟨q,hq⟩:=K.reads a
 have hck:=K.law.check w false hq
 have hchg:∀o,Chg (fun x=>x=b) w {w with heap:=w.heap.setIfInBounds b o}:=fun o=>
  ⟨rfl,rfl,rfl,by simp,fun r hr hne=>(MapKept.heap_set (o':=o) hb).2 r hne⟩
 rcases MapAt.find K he a w with ⟨h1,h2,h3⟩|⟨j,v0,h1,h2,e0,h3,h4,h5⟩
 ·refine ⟨_,?_,?_,hchg (.map (es.push {key:=enc a,val:=val v,born:=c}) (c+1))⟩
  ·simp only [Instr.mapUpdate,Sem.run_bind,run_underlying ht,Result.andThen_ok,MapKept.run_getObj_map hb,hck,h1,MapKept.run_setObj_map _ hb]
  ·refine ⟨_,_,(MapKept.heap_set hb).1,MapKept.stamped_push hs ?_,?_⟩
   ·intro x hx e
    have h6:(x.key,x.val)∈l.map (fun p=>(enc p.1,val p.2)):=he▸List.mem_map.2 ⟨x,hx,rfl⟩
    obtain ⟨p,hp,hpe⟩:=List.mem_map.1 h6
    simp only [Prod.mk.injEq] at hpe
    exact h3 (List.mem_map.2 ⟨p,hp,K.inj (hpe.1.trans e)⟩)
   ·simp [mput,if_neg h3,he]
 ·have hst:=K.law.stays w hq
  have hj:es[j]? =some e0:=by simpa using h3
  have h3':a∈l.map (·.1):=List.mem_map.2 ⟨_,List.mem_of_getElem? h2,rfl⟩
  refine ⟨_,?_,?_,hchg (.map (es.modify j fun e=>{e with key:=enc a,val:=val v}) c)⟩
  ·simp only [Instr.mapUpdate,Sem.run_bind,run_underlying ht,Result.andThen_ok,MapKept.run_getObj_map hb,hck,h1,hj,Option.map_some,Option.getD_some,h4,hst,MapKept.run_setObj_map _ hb]
  ·refine ⟨_,_,(MapKept.heap_set hb).1,MapKept.stamped_modify hs j _ (fun _ _=>rfl) ?_,?_⟩
   ·intro e hm hje
    rw [hj] at hje
    have:e0=e:=Option.some.inj hje
    rw [←this,h4]
   ·rw [modify_entry he hn h2,mput,if_pos h3']
theorem filter_eq_erase {l:List (κ×ν)} (hn:(l.map (·.1)).Nodup) {j:Nat} {a:κ} {v:ν} (h:l[j]? =some (a,v)):l.filter (fun p=>p.1≠a)=l.eraseIdx j:=by
 induction l generalizing j with
 |nil=>simp at h
 |cons p l ih=>
  rw [List.map_cons,List.nodup_cons] at hn
  cases j with
  |zero=>
   simp at h
   subst h
   have:∀q∈l,q.1≠a:=fun q hq e=>hn.1 (List.mem_map.2 ⟨q,hq,e⟩)
   rw [List.eraseIdx_cons_zero,List.filter_cons_of_neg (by simp)]
   exact List.filter_eq_self.2 (by simpa using this)
  |succ j=>
   simp at h
   have hm:a∈l.map (·.1):=List.mem_map.2 ⟨(a,v),List.mem_of_getElem? h,rfl⟩
   have hne:p.1≠a:=fun e=>hn.1 (e▸hm)
   rw [List.eraseIdx_cons_succ,List.filter_cons_of_pos (by simpa using hne),ih hn.2 h]
theorem MapAt.del (K:KEnc P k enc) (h:MapAt enc val w b l) {t e ty:TypeId} (ht:P.underlying t=some (.map k e)) (a:κ) (T2:TypeId):
  ∃w',(Builtin.delete_ #[t,T2] ty #[.map (some b),enc a]).run P w= .ok (.tuple #[]) w'∧MapAt enc val w' b (mdel l a)∧Chg (fun x=>x=b) w w':=by
 have hn:=h.nodup
 obtain ⟨es,c,hb,hs,he⟩:=h
 obtain ⟨q,hq⟩:=K.reads a
 have hck:=K.law.check w es.isEmpty hq
 have hchg:∀o,Chg (fun x=>x=b) w {w with heap:=w.heap.setIfInBounds b o}:=fun o=>
  ⟨rfl,rfl,rfl,by simp,fun r hr hne=>(MapKept.heap_set (o':=o) hb).2 r hne⟩
 rcases MapAt.find K he a w with ⟨h1,h2,h3⟩|⟨j,v0,h1,h2,e0,h3,h4,h5⟩
 ·refine ⟨_,?_,?_,hchg (.map es c)⟩
  ·simp [Builtin.delete_,run_underlying ht,MapKept.run_getObj_map hb,hck,h1,MapKept.run_setObj_map _ hb]
  ·refine ⟨_,_,(MapKept.heap_set hb).1,hs,?_⟩
   rw [he,mdel,List.filter_eq_self.2]
   intro p hp
   simp only [ne_eq,decide_not,Bool.not_eq_eq_eq_not,Bool.not_true,decide_eq_false_iff_not]
   intro e
   exact h3 (List.mem_map.2 ⟨p,hp,e⟩)
 ·refine ⟨_,?_,?_,hchg (.map (es.eraseIdxIfInBounds j) c)⟩
  ·simp [Builtin.delete_,run_underlying ht,MapKept.run_getObj_map hb,hck,h1,MapKept.run_setObj_map _ hb]
  ·refine ⟨_,_,(MapKept.heap_set hb).1,MapKept.stamped_erase hs j,?_⟩
   rw [mdel,filter_eq_erase hn h2]
   have hmap:∀{α β:Type} (f:α→β) (l:List α) (i:Nat),(l.eraseIdx i).map f=(l.map f).eraseIdx i:=by
    intro α β f l
    induction l with
    |nil=>intro i;simp
    |cons x l ih=>intro i;cases i<;>simp [ih]
   rw [hmap,←he,←hmap]
   congr 1
   have hj:j < es.size:=by
    have:=(List.getElem?_eq_some_iff.1 h3).1
    simpa using this
   simp [Array.eraseIdxIfInBounds,hj]
omit [DecidableEq κ] in
theorem MapAt.len (h:MapAt enc val w b l) {t k e ty:TypeId} (ht:P.underlying t=some (.map k e)):(Builtin.len_ #[t] ty #[.map (some b)]).run P w= .ok (.int .i64 l.length) w:=by
 obtain ⟨es,c,hb,hs⟩:=h.size
 simp [Builtin.len_,run_underlying ht,MapKept.run_getObj_map hb,hs,goInt]
omit [DecidableEq κ] in
@[simp] theorem MapAt.alloc (h:MapAt enc val w b l) (o:Obj):MapAt enc val (w.alloc o) b l:=h.of_heap (Below.heap_alloc w o b h.lt)
omit [DecidableEq κ] in
@[simp] theorem MapAt.drew (h:MapAt enc val w b l):MapAt enc val w.drew b l:=h
end maps
section laws
variable {P : Program} {ops : Array Oper} {rest : List Oper} {o : Oper} {a : Act} {Q : Exit → Act → World → Prop} {K : Act → World → Prop} {E : Prop} {w : World}
end laws
abbrev u32 (x:UInt32):Value:= .int .u32 (x.toNat:Int)
theorem u32_enc {P:Program} {k:TypeId} (hk:P.underlying k=some (.int .u32)):KEnc P k u32 where
 law:=Maps.int_keyed hk
 reads x:=⟨_,Maps.keyOf_int_mk hk (by have:=x.toNat_lt;simp [Lit.wf,IntKind.min,IntKind.max,IntKind.signed,IntKind.bits];omega)⟩
 inj h:=by
  simp only [Value.int.injEq,true_and] at h
  exact UInt32.toNat_inj.1 (by omega)
open Go.ChangeShapes Go.WideShapes Go.ChangeAt Go.RowKit
section
variable {H : Type} {enc : TypeId × Value → H} {P : Program}
theorem trodAll_later {W W':World} (hb:Below W.heap.size W W') {sp:Nat→Bool} {held:Bool}:∀{ts:List TypeId} {vs:List Value} {ds:List (DataW H)} {ps:List MemPlace},DataW.TrodAll enc P W 0 sp held ts vs ds ps→DataW.TrodAll enc P W' 0 sp held ts vs ds ps
 | [], [], [],_,h=>h
 |_::_,_::_,_::_,_,⟨p,q,⟨n,h1⟩,h2,e⟩=>⟨p,q,⟨n,DataW.trod_carry n _ _ _ h1 fun x hx=>hb.same (DataW.trod_lt n _ _ _ h1 x hx)⟩,trodAll_later hb h2,e⟩
theorem law_post {f:Func} {s:ChangeSpec} {apart:Bool} {W W':World} {args:Array Value} {ds gs:List (DataW H)} {before:List MemPlace} {tb:TypeId}
  (K:Kids P (· < P.types.size)) (hz:∀t e,t < P.types.size→P.underlying t=some (.slice e)→0 < P.cellsOf e) (hpar:∀t∈f.params.toList,t < P.types.size)
  (hrt:f.resultTypes= #[tb]) (hub:P.underlying tb=some .bool) (hvars:s.vars= []) (hfn:s.fn H (ds++gs)={results:= [.lit (.bool true)],args:=ds})
  (hW:DataW.Whole enc P f.params.toList s.vars apart W args.toList ds gs before) (hc:Chg N0 W W'):s.post enc P f apart true false false W args (.bool true) W':=by
 have hW':=hW
 obtain ⟨p,q,hA,hV,rfl,hfz,hnd⟩:=hW
 rw [hvars] at hV
 obtain ⟨rfl,rfl⟩:=trodVars_none hV
 have hlt:∀x∈p,x.block < W.heap.size:=fun x hx=>hA.lt x hx
 have hb:=hc.below0
 refine ⟨ds, [],p++ [], [],p, [],hW',?_,?_,?_,?_,fun h=>by cases h⟩
 ·rw [hfn,hrt]
  exact trodAll_cons_mk (shut_bool hub _) trodAll_mk0
 ·rw [hfn]
  exact trodAll_later hb (hA.respare K hz hpar fun x hx=>by simpa using hlt x hx)
 ·rw [hfn,hvars]
  rfl
 ·exact World.keptBut_mono (fun x hx=>⟨hx, .inr (.inl (by simpa using hx))⟩) (hb.frame (· ∈p++ []))
end
theorem lit_u8 {a:Int} (h:(Lit.int .u8 a).wf=true):∃n:Nat,a=n∧n < 256:=by
 have:0≤a∧a≤255:=by simpa [Lit.wf,IntKind.min,IntKind.max,IntKind.signed,IntKind.bits] using h
 exact ⟨a.toNat,by omega,by omega⟩
theorem lit_u32 {a:Int} (h:(Lit.int .u32 a).wf=true):∃x:UInt32,a=(x.toNat:Int):=by
 have:0≤a∧a≤4294967295:=by simpa [Lit.wf,IntKind.min,IntKind.max,IntKind.signed,IntKind.bits] using h
 exact ⟨UInt32.ofNat a.toNat,by simp;omega⟩
theorem lit_i64 {a:Int} (h:(Lit.int .i64 a).wf=true): -9223372036854775808≤a∧a≤9223372036854775807:=by
 simpa [Lit.wf,IntKind.min,IntKind.max,IntKind.signed,IntKind.bits] using h
end Go.Proofs.YtpbapnlnheahnaaGreatDoor
