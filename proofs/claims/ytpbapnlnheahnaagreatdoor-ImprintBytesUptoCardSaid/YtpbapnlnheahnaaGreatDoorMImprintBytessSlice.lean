/- Slice: slices that came in, rows of the call's own, strings of bytes. No condition. -/
import Derived.Test.YtpbapnlnheahnaaGreatDoorMImprintBytes4
import Derived.Laws.OwnMore
import Derived.Maps.AppendAt
import Derived.Laws.IdiomStrings
set_option linter.unusedSimpArgs false
set_option linter.unusedVariables false
namespace Go.Proofs.YtpbapnlnheahnaaGreatDoor
open Go.RowKit
abbrev u8 (x:UInt8):Value:= .int .u8 x.toNat
abbrev u8L (x:UInt8):List Value:= [u8 x]
abbrev str (l:List UInt8):Value:= .string ⟨l.toArray⟩
structure Sl (α:Type) where
 A:Option Addr
 c:Nat
 l:List α
abbrev Sl.v {α:Type} (s:Sl α):Value:= .slice s.A s.l.length s.c
def Sl.nil {α:Type}:Sl α:=⟨none,0, []⟩
def RowAt {α:Type} (w:World) (enc:α→List Value) (sz b o:Nat) (l:List α):Prop:=
 ∀(i:Nat) x,l[i]? =some x→∀(j:Nat) v,(enc x)[j]? =some v→w.cell? ⟨b,o+i*sz+j,none⟩=some v
structure SlAt {α:Type} (B:Nat) (w:World) (enc:α→List Value) (sz:Nat) (s:Sl α):Prop where
 le:s.l.length≤s.c
 max:s.c≤maxLen
 nil:s.A=none→s.c=0
 row:s.l≠ []→∃b o,s.A=some ⟨b,o,none⟩∧b < B∧RowAt w enc sz b o s.l
section
variable {α : Type} {S : Nat → Prop} {w0 w w' : World} {rs : List Res} {enc : α → List Value} {sz B b o : Nat} {l : List α} {s : Sl α}
theorem RowAt.keep (h:RowAt w enc sz b o l) (hc:Chg S w w') (hb:¬S b):RowAt w' enc sz b o l:=fun i x hi j v hj=>hc.cell (h i x hi j v hj) hb
theorem SlAt.keep (h:SlAt B w enc sz s) (hc:Chg S w w') (hB:∀b,S b→B≤b):SlAt B w' enc sz s:=
 ⟨h.le,h.max,h.nil,fun hn=>by
  obtain ⟨b,o,h1,h2,h3⟩:=h.row hn
  exact ⟨b,o,h1,h2,h3.keep hc fun hh=>by have:=hB b hh;omega⟩⟩
theorem SlAt.more {B':Nat} (h:SlAt B w enc sz s) (hB:B≤B'):SlAt B' w enc sz s:=
 ⟨h.le,h.max,h.nil,fun hn=>by
  obtain ⟨b,o,h1,h2,h3⟩:=h.row hn
  exact ⟨b,o,h1,by omega,h3⟩⟩
theorem SlAt.none_:SlAt B w enc sz (Sl.nil:Sl α):=⟨Nat.le_refl _,by simp [Sl.nil],fun _=>rfl,fun h=>by simp [Sl.nil] at h⟩
theorem SlAt.has (h:SlAt B w enc sz s) {i:Nat} (hi:i < s.l.length):∃b o x,s.A=some ⟨b,o,none⟩∧b < B∧RowAt w enc sz b o s.l∧s.l[i]? =some x:=by
 obtain ⟨b,o,h1,h2,h3⟩:=h.row (fun e=>by rw [e] at hi;simp at hi)
 exact ⟨b,o,_,h1,h2,h3,List.getElem?_eq_getElem hi⟩
theorem ld_row (h:Hp S w0 w rs) (hB:∀b,S b→B≤b) (hb:b < B) (hr:RowAt w0 enc sz b o l) {a:Addr} {k:Value→Prop} (i j:Nat) (ha:a=⟨b,o+i*sz+j,none⟩) {x:α} (hi:l[i]? =some x) {v:Value} (hj:(enc x)[j]? =some v) (hk:k v):Ld w a k:=by
 subst ha
 exact ld_of (hr.keep h.chg (fun hh=>by have:=hB b hh;omega) i x hi j v hj) hk
theorem ldn_rowat (hr:RowAt w enc sz b o l) {a:Addr} {n:Nat} {k:Value→Prop} (i j:Nat) (ha:a=⟨b,o+i*sz+j,none⟩) {x:α} (hi:l[i]? =some x) {vs:List Value} (hj:((enc x).drop j).take n=vs) (hn:vs.length=n) (hk:k (.agg vs.toArray)):LdN w a n k:=by
 subst ha
 refine ldn_of hn (fun q v hv=>?_) hk
 rw [add_plain]
 have hq:q < n:=by
  have:=(List.getElem?_eq_some_iff.1 hv).1
  omega
 rw [←hj,List.getElem?_take_of_lt hq,List.getElem?_drop] at hv
 have:=hr i x hi (j+q) v hv
 rwa [←Nat.add_assoc] at this
theorem ldn_row (h:Hp S w0 w rs) (hB:∀b,S b→B≤b) (hb:b < B) (hr:RowAt w0 enc sz b o l) {a:Addr} {n:Nat} {k:Value→Prop} (i j:Nat) (ha:a=⟨b,o+i*sz+j,none⟩) {x:α} (hi:l[i]? =some x) {vs:List Value} (hj:((enc x).drop j).take n=vs) (hn:vs.length=n) (hk:k (.agg vs.toArray)):LdN w a n k:=
 ldn_rowat (hr.keep h.chg fun hh=>by have:=hB b hh;omega) i j ha hi hj hn hk
end
section
variable {α : Type} {S : Nat → Prop} {w0 w : World} {rs : List Res} {enc : α → List Value} {sz B b o : Nat} {l : List α}
theorem ldn_rowx (h:Hp S w0 w rs) (hB:∀b,S b→B≤b) (hb:b < B) (hr:RowAt w0 enc sz b o l) {a:Addr} {n:Nat} {k:Value→Prop} (i:Nat) (ha:a=⟨b,o+i*sz,none⟩) {x:α} (hi:l[i]? =some x) (hn:(enc x).length=n) (hk:k (.agg (enc x).toArray)):LdN w a n k:=
 ldn_row h hB hb hr i 0 (by rw [ha];rfl) hi (vs:=enc x) (by rw [List.drop_zero,←hn];exact List.take_length) hn hk
theorem ld_row0 (h:Hp S w0 w rs) (hB:∀b,S b→B≤b) (hb:b < B) (hr:RowAt w0 enc sz b o l) {a:Addr} {k:Value→Prop} (i:Nat) (ha:a=⟨b,o+i*sz,none⟩) {x:α} (hi:l[i]? =some x) {v:Value} (hj:(enc x)[0]? =some v) (hk:k v):Ld w a k:=
 ld_row h hB hb hr i 0 (by rw [ha];rfl) hi hj hk
end
theorem flat_at {α:Type} {enc:α→List Value} {sz:Nat}:∀{l:List α},(∀x∈l,(enc x).length=sz)→∀(i:Nat) x,l[i]? =some x→∀(j:Nat) v,(enc x)[j]? =some v→(l.flatMap enc)[i*sz+j]? =some v
 | [],_,i,x,hi,_,_,_=>by simp at hi
 |y::l,h,0,x,hi,j,v,hj=>by
  simp at hi
  subst hi
  rw [List.flatMap_cons,Nat.zero_mul,Nat.zero_add,List.getElem?_append_left (List.getElem?_eq_some_iff.1 hj).1]
  exact hj
 |y::l,h,i+1,x,hi,j,v,hj=>by
  have hy:=h y (by simp)
  rw [List.flatMap_cons,List.getElem?_append_right (by rw [hy,Nat.succ_mul];omega),hy]
  have:=flat_at (l:=l) (fun x hx=>h x (by simp [hx])) i x (by simpa using hi) j v hj
  rw [←this]
  congr 1
  rw [Nat.succ_mul]
  omega
theorem flat_len {α:Type} {enc:α→List Value} {sz:Nat}:∀{l:List α},(∀x∈l,(enc x).length=sz)→(l.flatMap enc).length=l.length*sz
 | [],_=>by simp
 |y::l,h=>by rw [List.flatMap_cons,List.length_append,h y (by simp),flat_len (fun x hx=>h x (by simp [hx])),List.length_cons,Nat.succ_mul];omega
def rowR {α:Type} (e:TypeId) (sz:Nat) (enc:α→List Value) (s:Sl α):Res where
 dom b:=s.v.ownBlock=some b
 ok w:=w.ownsRow 0 e sz s.v s.l.length (s.l.flatMap enc)∧∀x∈s.l,(enc x).length=sz
 lt w h b hb:=(h.1.lt b hb).2
 loc w w' h hk:=by
  refine ⟨?_,hk.2⟩
  obtain ⟨h1,h2⟩:=hk.1
  refine ⟨h1,h2.imp id ?_⟩
  rintro ⟨g,cap,cur,h3,h4,h5,h6⟩
  exact ⟨g,cap,cur,h3,h4,(h g (by rw [h3];rfl)).trans h5,h6⟩
def ElT (P:Program) (t e:TypeId) (sz bytes:Nat):Prop:=P.underlying t=some (.slice e)∧∃i z,P.info? e=some i∧i.zero=some z∧i.size=sz∧i.bytes=bytes∧z.cells.size=sz∧0 < sz
theorem elt_of {P:Program} {t e:TypeId} {sz bytes:Nat} {z:Value} (h1:P.underlying t=some (.slice e)) (h2:(P.info? e).map (fun i=>(i.zero,i.size,i.bytes))=some (some z,sz,bytes)) (h3:z.cells.size=sz) (h4:0 < sz):ElT P t e sz bytes:=by
 cases hi:P.info? e with
 |none=>rw [hi] at h2;cases h2
 |some i=>
  rw [hi] at h2
  simp only [Option.map_some,Option.some.injEq,Prod.mk.injEq] at h2
  exact ⟨h1,i,z,hi,h2.1,h2.2.1,h2.2.2,h3,h4⟩
section
variable {α : Type} {P : Program} {S : Nat → Prop} {w0 w w' : World} {rs : List Res} {enc : α → List Value} {e t : TypeId} {sz bytes B j : Nat} {s : Sl α} {ρ : Operand → Value} {o : Oper} {g : Value → World → Prop}
theorem rowR_ok:(rowR e sz enc s).ok w↔w.ownsRow 0 e sz s.v s.l.length (s.l.flatMap enc)∧∀x∈s.l,(enc x).length=sz:=Iff.rfl
theorem rowR_dom {b:Nat}:(rowR e sz enc s).dom b↔s.v.ownBlock=some b:=Iff.rfl
theorem rowR_at (h:(rowR e sz enc s).ok w):SlAt w.heap.size w enc sz s:=by
 obtain ⟨h1,h2⟩:=h
 have hrow:s.l≠ []→∃g,s.A=some ⟨g,0,none⟩:=fun hn=>by
  rcases h1.2 with ⟨_,h4⟩|⟨g,cap,cur,h3,_⟩
  ·exact (hn (List.eq_nil_of_length_eq_zero h4)).elim
  ·injection h3 with h3
   exact ⟨g,h3⟩
 refine ⟨?_,?_,?_,fun hn=>?_⟩
 ·rcases h1.2 with ⟨_,h4⟩|⟨g,cap,cur,h3,_,_,h6,_⟩
  ·omega
  ·injection h3 with _ _ h3
   omega
 ·rcases h1.2 with ⟨h3,_⟩|⟨g,cap,cur,h3,_,_,_,h7,_⟩
  ·injection h3 with _ _ h3
   rw [h3];omega
  ·injection h3 with _ _ h3
   omega
 ·intro hA
  rcases h1.2 with ⟨h3,_⟩|⟨g,cap,cur,h3,_,_,_,h7,_⟩
  ·injection h3
  ·injection h3 with h3
   rw [hA] at h3;cases h3
 ·obtain ⟨gg,hg⟩:=hrow hn
  refine ⟨gg,0,hg,(h1.lt gg (by rw [Sl.v,hg];rfl)).2,fun i x hi q v hq=>?_⟩
  have h5:=h1.cells (g:=gg) (by rw [Sl.v,hg];rfl) (i*sz+q) v (flat_at h2 i x hi q v hq)
  rw [add_plain] at h5
  rw [Nat.add_assoc]
  exact h5
theorem Hp.row (h:Hp S w0 w rs) (hj:rs[j]? =some (rowR e sz enc s)):SlAt w.heap.size w enc sz s:=rowR_at (h.get hj)
theorem ld_own (h:Hp S w0 w rs) (j:Nat) (hj:rs[j]? =some (rowR e sz enc s)) {b ofs:Nat} {a:Addr} {k:Value→Prop} (hA:s.A=some ⟨b,ofs,none⟩) (i q:Nat) (ha:a=⟨b,ofs+i*sz+q,none⟩) {x:α} (hi:s.l[i]? =some x) {v:Value} (hq:(enc x)[q]? =some v) (hk:k v):Ld w a k:=by
 obtain ⟨b',o',h1,_,h3⟩:=(h.row hj).row (fun e=>by rw [e] at hi;simp at hi)
 rw [hA] at h1
 cases h1
 subst ha
 exact ld_of (h3 i x hi q v hq) hk
theorem ldn_own (h:Hp S w0 w rs) (j:Nat) (hj:rs[j]? =some (rowR e sz enc s)) {b ofs n:Nat} {a:Addr} {k:Value→Prop} (hA:s.A=some ⟨b,ofs,none⟩) (i q:Nat) (ha:a=⟨b,ofs+i*sz+q,none⟩) {x:α} (hi:s.l[i]? =some x) {vs:List Value} (hq:((enc x).drop q).take n=vs) (hn:vs.length=n) (hk:k (.agg vs.toArray)):LdN w a n k:=by
 obtain ⟨b',o',h1,_,h3⟩:=(h.row hj).row (fun e=>by rw [e] at hi;simp at hi)
 rw [hA] at h1
 cases h1
 exact ldn_rowat h3 i q ha hi hq hn hk
theorem gen_ixs {x i:Operand} (hop:o.op= .indexAddr t x i) {A:Option Addr} {b ofs len cap n0:Nat} {k:IntKind} {q:Int} (hx:ρ x= .slice A len cap) (hA:A=some ⟨b,ofs,none⟩) (hi:ρ i= .int k q) (he:elemOfT P t=some (true,n0,sz)) (hj:0≤q∧q < len)
  (hk:g (.pointer (some ⟨b,ofs+q.toNat*sz,none⟩)) w):Gen P ρ o w g:=by
 subst hA
 exact gen_ix hop hx hi he hj hk
theorem rd_ixs {g:Value→Prop} {x i:Operand} (hop:o.op= .indexAddr t x i) {A:Option Addr} {b ofs len cap n0:Nat} {k:IntKind} {q:Int} (hx:ρ x= .slice A len cap) (hA:A=some ⟨b,ofs,none⟩) (hi:ρ i= .int k q) (he:elemOfT P t=some (true,n0,sz)) (hj:0≤q∧q < len)
  (hk:g (.pointer (some ⟨b,ofs+q.toNat*sz,none⟩))):Rd P ρ o w g:=by
 subst hA
 exact rd_ix hop hx hi he hj hk
theorem ldn_ownx {S:Nat→Prop} {w0 w:World} {rs:List Res} (h:Hp S w0 w rs) (j:Nat) (hj:rs[j]? =some (rowR e sz enc s)) {b ofs n:Nat} {a:Addr} {k:Value→Prop} (hA:s.A=some ⟨b,ofs,none⟩) (i:Nat) (ha:a=⟨b,ofs+i*sz,none⟩) {x:α} (hi:s.l[i]? =some x) (hn:(enc x).length=n) (hk:k (.agg (enc x).toArray)):LdN w a n k:=
 ldn_own h j hj hA i 0 (by rw [ha];rfl) hi (vs:=enc x) (by rw [List.drop_zero,←hn];exact List.take_length) hn hk
theorem run_app (hE:ElT P t e sz bytes) (ty:TypeId) (h:(rowR e sz enc s).ok w) {s2:Sl α} (h2:SlAt B w enc sz s2) (hl:∀x∈s2.l,(enc x).length=sz) (h1:∀x∈s2.l,∀u∈enc x,u.oneCell'=true) (hb:(s.l.length+s2.l.length)*bytes≤140737488355328) (hn:s.l.length+s2.l.length≤maxLen):
  ∃A' c' w',(Builtin.append_ #[t,t] ty #[s.v,s2.v]).run P w= .ok (.slice A' (s.l++s2.l).length c') w'∧(rowR e sz enc ⟨A',c',s.l++s2.l⟩).ok w'∧w.grownBy w' s.v.ownBlock∧
   ((Sl.v (α:=α) ⟨A',c',s.l++s2.l⟩).ownBlock=s.v.ownBlock∨(Sl.v (α:=α) ⟨A',c',s.l++s2.l⟩).ownBlock=some w.heap.size):=by
 obtain ⟨ht,i,z,hi,hz,hs,hby,hzs,hsz⟩:=hE
 obtain ⟨hown,hlen⟩:=h
 have key:∃v' w',(Builtin.append_ #[t,t] ty #[s.v,s2.v]).run P w= .ok v' w'∧w'.ownsRow 0 e sz v' (s.l.length+s2.l.length) (s.l.flatMap enc++s2.l.flatMap enc)∧w.grownBy w' s.v.ownBlock∧(v'.ownBlock=s.v.ownBlock∨v'.ownBlock=some w.heap.size):=by
  cases hA:s2.A with
  |none=>
   have hc:=h2.nil hA
   have h0:s2.l= []:=List.eq_nil_of_length_eq_zero (by have:=h2.le;omega)
   refine ⟨s.v,w,?_,by simpa [h0] using hown,⟨rfl,rfl,rfl,Nat.le_refl _,fun _ _ _=>rfl⟩, .inl rfl⟩
   have e2:s2.v= .slice none 0 0:=by simp [Sl.v,hA,h0,hc]
   rw [e2]
   rcases hown.2 with ⟨h3,_⟩|⟨g,cap,cur,h3,_,_,hnc,_⟩
   ·rw [h3];simp [Builtin.append_,run_underlying ht,sizeOf,typeInfo,hi,Builtin.lenOf,Builtin.firstCells]
   ·rw [h3];simp [Builtin.append_,run_underlying ht,sizeOf,typeInfo,hi,Builtin.lenOf,Builtin.firstCells,hnc,storeCells]
  |some ad=>
   have hnews:∀j u,(s2.l.flatMap enc)[j]? =some u→w.cell? (ad.add j)=some u:=fun j u hj=>by
    have hne:s2.l≠ []:=fun e=>by rw [e] at hj;simp at hj
    obtain ⟨b,o,h3,_,h4⟩:=h2.row hne
    rw [hA] at h3
    cases h3
    rw [add_plain]
    have hjl:=(List.getElem?_eq_some_iff.1 hj).1
    rw [flat_len hl] at hjl
    have hq:j / sz < s2.l.length:=Nat.div_lt_of_lt_mul (by rw [Nat.mul_comm];exact hjl)
    have hx:=List.getElem?_eq_getElem hq
    have hlx:=hl _ (List.getElem_mem hq)
    have hr:j % sz < (enc s2.l[j / sz]).length:=by rw [hlx];exact Nat.mod_lt _ hsz
    have h5:=flat_at hl _ _ hx _ _ (List.getElem?_eq_getElem hr)
    have e1:j / sz*sz+j % sz=j:=Nat.div_add_mod' j sz
    rw [e1,hj] at h5
    cases h5
    have h6:=h4 _ _ hx _ _ (List.getElem?_eq_getElem hr)
    rwa [Nat.add_assoc,e1] at h6
   have e2:s2.v= .slice (some ad) s2.l.length s2.c:=by simp [Sl.v,hA]
   obtain ⟨v',w',hrun,h3,h4,_,h5⟩:=run_append_own_at (P:=P) w 0 t ty e i z sz bytes ht hi hz hs hby hzs hsz s.v s.l.length (s.l.flatMap enc) hown ad s2.l.length s2.c (s2.l.flatMap enc) (flat_len hl) hnews
    (fun u hu=>by obtain ⟨x,hx,hu⟩:=List.mem_flatMap.1 hu;exact h1 x hx u hu) hn hb (Nat.zero_le _)
   rw [e2]
   exact ⟨v',w',hrun,h3,h4,h5⟩
 obtain ⟨v',w',hrun,h3,h4,h5⟩:=key
 have e3:(s.l++s2.l).flatMap enc=s.l.flatMap enc++s2.l.flatMap enc:=List.flatMap_append
 have hv:∃A' c',v'= .slice A' (s.l++s2.l).length c':=by
  rcases h3.2 with ⟨h6,h7⟩|⟨g,cap,cur,h6,_⟩
  ·exact ⟨none,0,by rw [h6,List.length_append,h7]⟩
  ·exact ⟨_,cap,by rw [h6,List.length_append]⟩
 obtain ⟨A',c',rfl⟩:=hv
 refine ⟨A',c',w',hrun,⟨?_,fun x hx=>?_⟩,h4,h5⟩
 ·show w'.ownsRow 0 e sz (.slice A' (s.l++s2.l).length c') (s.l++s2.l).length ((s.l++s2.l).flatMap enc)
  rw [e3,List.length_append]
  rw [List.length_append] at h3
  exact h3
 ·rcases List.mem_append.1 hx with hx|hx
  ·exact hlen x hx
  ·exact hl x hx
theorem gen_app {x y:Operand} (hop:o.op= .call {callee:= .builtin .append,args:= #[x,y],argTypes:= #[t,t]}) (h:Hp S w0 w rs) (j:Nat) (hj:rs[j]? =some (rowR e sz enc s)) (hE:ElT P t e sz bytes) (hx:ρ x=s.v) (s2:Sl α) (hy:ρ y=s2.v) (h2:SlAt B w enc sz s2)
  (hl:∀x∈s2.l,(enc x).length=sz) (h1:∀x∈s2.l,∀u∈enc x,u.oneCell'=true) (hb:(s.l.length+s2.l.length)*bytes≤140737488355328) (hn:s.l.length+s2.l.length≤maxLen)
  (hk:∀A' c' w',Hp S w0 w' (rs.set j (rowR e sz enc ⟨A',c',s.l++s2.l⟩))→g (.slice A' (s.l++s2.l).length c') w'):Gen P ρ o w g:=by
 obtain ⟨A',c',w',hrun,h3,h4,h5⟩:=run_app hE o.type (h.get hj) h2 hl h1 hb hn
 refine gen_v (by simp only [execOp,hop,resolve,invoke,builtin,Sem.run_bind,Sem.run_pure,Result.andThen_ok,List.map_toArray,List.map_cons,List.map_nil,hx,hy,hrun]) (hk A' c' w' (h.mut hj ?_ h3 fun b hb=>?_))
 ·refine ⟨h4.os,h4.tape,h4.output,h4.size,fun k hk hn=>h4.block k hk fun e=>hn ?_⟩
  exact e.symm
 ·rcases h5 with h5|h5
  ·exact .inl (h5.symm.trans hb)
  ·right
   have:=hb.symm.trans h5
   simp only [Option.some.injEq] at this
   omega
theorem run_app0 (hE:ElT P t e sz bytes) (ty:TypeId) {s2:Sl α} (h2:SlAt B w enc sz s2) (hl:∀x∈s2.l,(enc x).length=sz) (h1:∀x∈s2.l,∀u∈enc x,u.oneCell'=true) (hb:s2.l.length*bytes≤140737488355328) (hn:s2.l.length≤maxLen):
  ∃A' c' w',(Builtin.append_ #[t,t] ty #[.slice none 0 0,s2.v]).run P w= .ok (.slice A' s2.l.length c') w'∧(rowR e sz enc ⟨A',c',s2.l⟩).ok w'∧Chg N0 w w'∧(∀b,(Sl.v (α:=α) ⟨A',c',s2.l⟩).ownBlock=some b→w.heap.size≤b):=by
 obtain ⟨A',c',w',hrun,h3,h4,h5⟩:=run_app (s:=Sl.nil) hE ty (w:=w) ⟨World.ownsRow_nil w 0 e sz,by simp [Sl.nil]⟩ h2 hl h1 (by simpa [Sl.nil] using hb) (by simpa [Sl.nil] using hn)
 refine ⟨A',c',w',by simpa [Sl.nil,Sl.v] using hrun,by simpa [Sl.nil] using h3,⟨h4.os,h4.tape,h4.output,h4.size,(fun k hk hn=>h4.block k hk fun e=>by cases e)⟩,fun b hb=>?_⟩
 have hb':(Sl.v (α:=α) ⟨A',c',Sl.nil.l++s2.l⟩).ownBlock=some b:=hb
 rcases h5 with h5|h5
 ·rw [h5] at hb';cases hb'
 ·rw [h5] at hb'
  cases hb'
  exact Nat.le_refl _
theorem gen_appe {x y:Operand} (hop:o.op= .call {callee:= .builtin .append,args:= #[x,y],argTypes:= #[t,t]}) (h:Hp S w0 w rs) (j:Nat) (hj:rs[j]? =some (rowR e sz enc s)) (hE:ElT P t e sz bytes) {bb:Nat} (hx:ρ x= .slice (some ⟨bb,0,none⟩) 0 0) (hs0:s.A=some ⟨bb,0,none⟩∧s.l= []∧s.c=0) (s2:Sl α) (hy:ρ y=s2.v) (h2:SlAt B w enc sz s2)
  (hl:∀x∈s2.l,(enc x).length=sz) (h1:∀x∈s2.l,∀u∈enc x,u.oneCell'=true) (hb:s2.l.length*bytes≤140737488355328) (hn:s2.l.length≤maxLen)
  (hk:∀A' c' w',Chg N0 w w'→Hp S w0 w' (rs.set j (rowR e sz enc ⟨A',c',s2.l⟩))→g (.slice A' s2.l.length c') w'):Gen P ρ o w g:=by
 obtain ⟨hA,hsl,hc⟩:=hs0
 have hsv:s.v= .slice (some ⟨bb,0,none⟩) 0 0:=by simp [Sl.v,hA,hsl,hc]
 obtain ⟨ht,i,z,hi,hz,hs,hby,hzs,hsz⟩:=id hE
 cases hl2:s2.l with
 |nil=>
  have hrun:(Builtin.append_ #[t,t] o.type #[.slice (some ⟨bb,0,none⟩) 0 0,s2.v]).run P w= .ok (.slice (some ⟨bb,0,none⟩) 0 0) w:=by
   cases hA2:s2.A with
   |none=>
    have hc2:=h2.nil hA2
    simp [Builtin.append_,run_underlying ht,sizeOf,typeInfo,hi,Builtin.lenOf,Builtin.firstCells,Sl.v,hA2,hl2,hc2,storeCells]
   |some ad=>simp [Builtin.append_,run_underlying ht,sizeOf,typeInfo,hi,Builtin.lenOf,Builtin.firstCells,Sl.v,hA2,hl2,storeCells,loadCells,loadCellsFrom]
  have e1:s=⟨some ⟨bb,0,none⟩,0, []⟩:=by cases s;simp_all
  have h3:rs.set j (rowR e sz enc ⟨some ⟨bb,0,none⟩,0,([]:List α)⟩)=rs:=by
   rw [←e1]
   obtain ⟨hlt,he⟩:=List.getElem?_eq_some_iff.1 hj
   rw [←he]
   exact List.set_getElem_self hlt
  refine gen_v (v:= .slice (some ⟨bb,0,none⟩) 0 0) (w':=w) (by simp only [execOp,hop,resolve,invoke,builtin,Sem.run_bind,Sem.run_pure,Result.andThen_ok,List.map_toArray,List.map_cons,List.map_nil,hx,hy,hrun]) ?_
  have:=hk (some ⟨bb,0,none⟩) 0 w (Chg.refl _ _) (by rw [hl2,h3];exact h)
  rw [hl2] at this
  exact this
 |cons x0 r0=>
  obtain ⟨A',c',w',hrun,h3,h4,h5⟩:=run_app0 hE o.type h2 hl h1 hb hn
  have hne:0 < s2.l.length:=by rw [hl2];simp
  have hsame:(Builtin.append_ #[t,t] o.type #[.slice (some ⟨bb,0,none⟩) 0 0,s2.v]).run P w=(Builtin.append_ #[t,t] o.type #[.slice none 0 0,s2.v]).run P w:=by
   obtain ⟨k,hk0⟩:∃k,s2.l.length=k+1:=⟨s2.l.length - 1,by omega⟩
   have g1:Builtin.nextslicecap (k+1) 0=k+1:=by simp [Builtin.nextslicecap]
   have g2:¬((9223372036854775807:Int) < (k:Int)+1):=by simp only [maxLen] at hn;omega
   have g3:¬(281474976710656 < (k+1)*i.bytes):=by rw [hby,←hk0];omega
   simp [Builtin.append_,run_underlying ht,sizeOf,typeInfo,hi,Builtin.lenOf,Builtin.firstCells,Sl.v,loadCells,loadCellsFrom,hk0,g1,g2,g3]
  rw [hrun] at hsame
  refine gen_v (v:= .slice A' s2.l.length c') (w':=w') (by simp only [execOp,hop,resolve,invoke,builtin,Sem.run_bind,Sem.run_pure,Result.andThen_ok,List.map_toArray,List.map_cons,List.map_nil,hx,hy,hsame]) ?_
  exact hk A' c' w' h4 (h.mut (r':=rowR e sz enc ⟨A',c',s2.l⟩) hj h4.of0 h3 fun b hb=>.inr (h5 b hb))
theorem gen_app0 {x y:Operand} (hop:o.op= .call {callee:= .builtin .append,args:= #[x,y],argTypes:= #[t,t]}) (h:Hp S w0 w rs) (hE:ElT P t e sz bytes) (hx:ρ x= .slice none 0 0) (s2:Sl α) (hy:ρ y=s2.v) (h2:SlAt B w enc sz s2)
  (hl:∀x∈s2.l,(enc x).length=sz) (h1:∀x∈s2.l,∀u∈enc x,u.oneCell'=true) (hb:s2.l.length*bytes≤140737488355328) (hn:s2.l.length≤maxLen)
  (hk:∀A' c' w',Chg N0 w w'→Hp S w0 w' (rowR e sz enc ⟨A',c',s2.l⟩::rs)→g (.slice A' s2.l.length c') w'):Gen P ρ o w g:=by
 obtain ⟨A',c',w',hrun,h3,h4,h5⟩:=run_app0 hE o.type h2 hl h1 hb hn
 refine gen_v (by simp only [execOp,hop,resolve,invoke,builtin,Sem.run_bind,Sem.run_pure,Result.andThen_ok,List.map_toArray,List.map_cons,List.map_nil,hx,hy,hrun]) (hk A' c' w' h4 (h.new h4 h3 h5))
theorem layL_app:∀(vs pre post rest:List Value),post.length=vs.length→layL vs pre.length (pre++(post++rest))=pre++(vs++rest)
 | [],pre, [],rest,_=>rfl
 | [],_,_::_,_,h=>by simp at h
 |_::_,_, [],_,h=>by simp at h
 |v::vs,pre,p::post,rest,h=>by
  have ih:=layL_app vs (pre++ [v]) post rest (by simpa using h)
  simp only [List.length_append,List.length_singleton,List.append_assoc,List.singleton_append] at ih
  have e1:(pre++(p::post++rest)).set pre.length v=pre++v::(post++rest):=by
   rw [List.set_append_right _ _ (Nat.le_refl _),Nat.sub_self]
   rfl
  rw [layL,e1]
  exact ih
theorem fillL_all {sz:Nat}:∀(vs:List Value) (k:Nat) (pre zs:List Value),pre.length=k*sz→zs.length=vs.length*sz→(∀v∈vs,v.cells.size=sz)→fillL (fun i=>some (i*sz,sz)) ((vs.zipIdx k).map fun p=>(p.2,p.1)) (pre++zs)=some (pre++vs.flatMap (·.cells.toList))
 | [],k,pre,zs,_,hz,_=>by
  have:zs= []:=List.eq_nil_of_length_eq_zero (by simpa using hz)
  simp [fillL,this]
 |v::vs,k,pre,zs,hp,hz,hv=>by
  have hvs:=hv v (by simp)
  rw [List.length_cons,Nat.succ_mul] at hz
  have h1:zs=zs.take sz++zs.drop sz:=(List.take_append_drop sz zs).symm
  have h2:(zs.take sz).length=v.cells.toList.length:=by simp [hvs];omega
  have h3:=layL_app v.cells.toList pre (zs.take sz) (zs.drop sz) h2
  rw [List.zipIdx_cons,List.map_cons]
  simp only [fillL,hvs]
  have h4:Nat.beq sz sz=true:=Nat.beq_refl sz
  have h5:Nat.ble (k*sz+sz) (pre++zs).length=true:=by rw [Nat.ble_eq,List.length_append,hp];omega
  rw [h4,h5,←hp]
  simp only [Bool.and_self,cond_true]
  rw [h1,h3,←List.append_assoc]
  rw [fillL_all vs (k+1) (pre++v.cells.toList) (zs.drop sz) (by simp [hp,hvs,Nat.succ_mul]) (by simp;omega) fun u hu=>hv u (by simp [hu])]
  simp
theorem run_bs (hE:ElT P t e sz bytes) (n:Nat) (parts:Array (Nat×Value)) (vs:List Value) (hp:parts.toList=vs.zipIdx.map fun p=>(p.2,p.1)) (hn:vs.length=n) (hv:∀v∈vs,v.cells.size=sz) (hsmall:n*sz≤16777216):
  (Instr.buildSlice t n parts).run P w= .ok (.slice (some ⟨w.heap.size,0,none⟩) n n) (w.alloc (.cells (vs.flatMap (·.cells.toList)).toArray e)):=by
 obtain ⟨ht,i,z,hi,hz,hs,hby,hzs,hsz⟩:=hE
 subst hs hn
 cases vs with
 |nil=>
  have h0:parts= #[]:=by simpa using hp
  subst h0
  have e0:Array.map (fun _=>(default:Value)) (Array.range 0)= #[]:=by simp
  simp [Instr.buildSlice,run_underlying ht,sizeOf,typeInfo,hi,newRow,Instr.fill,newObj,Sem.run]
  rw [e0]
 |cons v vs=>
  have h0:¬(v::vs).length*i.size=0:=by rw [List.length_cons,Nat.succ_mul];omega
  have h2:=fill_of (fun (j:Nat)=>some (j*i.size,i.size)) parts.toList ((Array.range ((v::vs).length*i.size)).map (z.cells[· % z.cells.size]!)) _ (by rw [hp];exact fillL_all (v::vs) 0 [] _ (by simp) (by simp) hv)
  obtain ⟨N,hN⟩:∃N,(v::vs).length=N:=⟨_,rfl⟩
  rw [hN] at h0 h2 hsmall ⊢
  simp [Instr.buildSlice,run_underlying ht,sizeOf,typeInfo,zeroValue,hi,hz,h0,Nat.not_lt.2 hsmall,newRow,h2,newObj,Sem.run]
theorem gen_bs {parts:Array (Nat×Operand)} {n:Nat} (hop:o.op= .buildSlice t n parts) (h:Hp S w0 w rs) (hE:ElT P t e sz bytes) (enc:α→List Value) (xs:List α) (vs:List Value) (hp:(parts.toList.map fun p=>(p.1,ρ p.2))=vs.zipIdx.map fun p=>(p.2,p.1)) (hn:vs.length=n)
  (hv:vs.map (·.cells.toList)=xs.map enc) (hs:∀x∈xs,(enc x).length=sz) (hsmall:n*sz≤16777216)
  (hk:∀b w',Hp S w0 w' (rowR e sz enc ⟨some ⟨b,0,none⟩,n,xs⟩::rs)→g (.slice (some ⟨b,0,none⟩) n n) w'):Gen P ρ o w g:=by
 have hxl:xs.length=n:=by have:=congrArg List.length hv;simp only [List.length_map] at this;omega
 have h1:(parts.map fun p=>(p.1,ρ p.2)).toList=vs.zipIdx.map fun p=>(p.2,p.1):=by rw [←hp];simp
 have hcs:∀v∈vs,v.cells.size=sz:=fun v hv'=>by
  have:v.cells.toList∈xs.map enc:=by rw [←hv];exact List.mem_map_of_mem hv'
  obtain ⟨x,hx,hxe⟩:=List.mem_map.1 this
  rw [←Array.length_toList,←hxe,hs x hx]
 have hr:=run_bs (w:=w) hE n _ vs h1 hn hcs hsmall
 have hfl:vs.flatMap (·.cells.toList)=xs.flatMap enc:=by rw [List.flatMap_def,hv,←List.flatMap_def]
 refine gen_v (v:= .slice (some ⟨w.heap.size,0,none⟩) n n) (w':=w.alloc (.cells (vs.flatMap (·.cells.toList)).toArray e)) (by simp only [execOp,hop,Sem.run_bind,hr,Result.andThen_ok,Sem.run_pure]) (hk w.heap.size _ (h.new ((Chg.refl _ _).alloc _) (r:=rowR e sz enc ⟨some ⟨w.heap.size,0,none⟩,n,xs⟩) ⟨?_,hs⟩ fun b hb=>?_))
 ·have h2:=World.ownsRow_lit (base:=0) (e:=e) (size:=sz) w (vs.flatMap (·.cells.toList)).toArray n (Nat.zero_le _) (by simp only [maxLen];obtain ⟨_,_,_,_,_,_,_,_,hsz⟩:=hE;have:n≤n*sz:=Nat.le_mul_of_pos_right n hsz;omega) (by rw [hfl];simp [flat_len hs,hxl])
  simp only [hfl] at h2 ⊢
  simpa [Sl.v,hxl] using h2
 ·have:some w.heap.size=some b:=hb
  cases this
  exact Nat.le_refl _
theorem layL_mid:∀(vs pre mid post:List Value) (q:Nat),q+vs.length≤mid.length→layL vs (pre.length+q) (pre++(mid++post))=pre++(layL vs q mid++post)
 | [],_,_,_,_,_=>rfl
 |v::vs,pre,mid,post,q,h=>by
  rw [List.length_cons] at h
  have e1:(pre++(mid++post)).set (pre.length+q) v=pre++(mid.set q v++post):=by
   rw [List.set_append_right _ _ (by omega),Nat.add_sub_cancel_left,List.set_append_left _ _ (by omega)]
  have ih:=layL_mid vs pre (mid.set q v) post (q+1) (by rw [List.length_set];omega)
  rw [layL,layL,e1,←ih,Nat.add_assoc]
theorem flat_set {x x':α} {vs:List Value} {q:Nat} (hx':enc x'=layL vs q (enc x)) (hq:q+vs.length≤sz):∀{l:List α} {i:Nat},(∀x∈l,(enc x).length=sz)→l[i]? =some x→layL vs (i*sz+q) (l.flatMap enc)=(l.set i x').flatMap enc
 | [],_,_,hi=>by simp at hi
 |y::l,0,h,hi=>by
  simp at hi
  subst hi
  have:=layL_mid vs [] (enc y) (l.flatMap enc) q (by rw [h y (by simp)];exact hq)
  simpa [hx'] using this
 |y::l,i+1,h,hi=>by
  have ih:=flat_set hx' hq (l:=l) (i:=i) (fun x hx=>h x (by simp [hx])) (by simpa using hi)
  have hy:=h y (by simp)
  have key:∀(ws pre rest:List Value) (k:Nat),layL ws (pre.length+k) (pre++rest)=pre++layL ws k rest:=by
   intro ws
   induction ws with
   |nil=>intros;rfl
   |cons u ws ihw=>
    intro pre rest k
    rw [layL,layL,List.set_append_right _ _ (by omega),Nat.add_sub_cancel_left,Nat.add_assoc,ihw]
  rw [List.flatMap_cons,List.set_cons_succ,List.flatMap_cons,←ih,←key,hy]
  congr 1
  rw [Nat.succ_mul]
  omega
theorem row_stored {g:Nat} {n cap:Nat}:∀(vs:List Value) (i q:Nat) (w:World) (xs:List Value),w.ownsRow 0 e sz (.slice (some ⟨g,0,none⟩) n cap) n xs→
  (setCs w ⟨g,i,none⟩ vs q).ownsRow 0 e sz (.slice (some ⟨g,0,none⟩) n cap) n (layL vs (i+q) xs)∧Chg (fun x=>x=g) w (setCs w ⟨g,i,none⟩ vs q)
 | [],_,_,_,_,h=>⟨h,Chg.refl _ _⟩
 |v::r,i,q,w,xs,h=>by
  obtain ⟨h1,_⟩:=h.stored (i+q) v
  have h0:(w.setCell (Addr.add ⟨g,i,none⟩ q) v).ownsRow 0 e sz (.slice (some ⟨g,0,none⟩) n cap) n (xs.set (i+q) v):=by rw [add_plain];exact h1
  obtain ⟨h2,h3⟩:=row_stored r i (q+1) _ _ h0
  refine ⟨h2,Chg.seq ((Chg.refl _ w).setCell (.inr ?_) v) h3⟩
  rw [add_plain]
theorem st_own {a:Addr} {vs:List Value} {k:World→Prop} (h:Hp S w0 w rs) (j:Nat) (hj:rs[j]? =some (rowR e sz enc s)) {b ofs:Nat} (hA:s.A=some ⟨b,ofs,none⟩) (i q:Nat) (ha:a=⟨b,ofs+i*sz+q,none⟩) {x:α} (hi:s.l[i]? =some x) (x':α) (hx':enc x'=layL vs q (enc x))
  (hq:q+vs.length≤sz) (h1:vs.all Value.oneCell'=true) (hk:∀w',Hp S w0 w' (rs.set j (rowR e sz enc ⟨s.A,s.c,s.l.set i x'⟩))→k w'):St w a vs k:=by
 have hr:=h.get hj
 obtain ⟨hown,hlen⟩:=rowR_ok.1 hr
 have hil:=(List.getElem?_eq_some_iff.1 hi).1
 have hv:s.v= .slice (some ⟨b,0,none⟩) s.l.length s.c∧ofs=0:=by
  rcases hown.2 with ⟨h3,h4⟩|⟨g,cap,cur,h3,_⟩
  ·omega
  ·injection h3 with h3 _ h5
   rw [hA] at h3
   cases h3
   exact ⟨by simp [Sl.v,hA],rfl⟩
 obtain ⟨hv,rfl⟩:=hv
 rw [hv] at hown
 have h1:∀v∈vs,v.oneCell'=true:=by simpa using h1
 have hflat:=flat_len hlen
 have hmul:i*sz+sz≤s.l.length*sz:=by rw [←Nat.succ_mul];exact Nat.mul_le_mul_right _ hil
 obtain ⟨h2,h3⟩:=row_stored vs (0+i*sz+q) 0 w _ hown
 have hset:=flat_set hx' hq hlen hi
 have hx'l:(enc x').length=sz:=by rw [hx',layL_length];exact hlen x (List.mem_of_getElem? hi)
 subst ha
 refine ⟨h1,fun y hy=>?_,?_⟩
 ·rw [add_plain]
  have hlt:0+i*sz+q+y < s.l.length*sz:=by omega
  have hc:=hown.cellAt _ hlt
  have hf:=hown.frozenAt (0+i*sz+q+y)
  rw [List.getElem?_eq_getElem (by rw [hflat];exact hlt)] at hc
  exact ⟨by rw [hc];rfl,hf⟩
 ·refine hk _ (h.mut hj (r':=rowR e sz enc ⟨s.A,s.c,s.l.set i x'⟩) ?_ ⟨?_,fun y hy=>?_⟩ fun b' hb'=>.inl ?_)
  ·refine h3.mono fun y _ hy=>?_
   show s.v.ownBlock=some y
   rw [hv,hy];rfl
  ·rw [Nat.add_zero,Nat.zero_add,hset] at h2
   show World.ownsRow _ 0 e sz (.slice s.A (s.l.set i x').length s.c) (s.l.set i x').length ((s.l.set i x').flatMap enc)
   rw [List.length_set,hA,Nat.zero_add]
   exact h2
  ·rcases List.mem_or_eq_of_mem_set hy with hy|hy
   ·exact hlen y hy
   ·rw [hy];exact hx'l
  ·have:(Value.slice s.A (s.l.set i x').length s.c).ownBlock=some b':=hb'
   show s.v.ownBlock=some b'
   rw [←this,hv,hA];rfl
theorem run_b2s {src dst:TypeId} (hs:P.underlying src=some (.slice e)) (he:P.underlying e=some (.int .u8)) (hd:P.underlying dst=some .string) {s:Sl UInt8} (h:SlAt B w u8L 1 s):(convert src dst s.v).run P w= .ok (str s.l) w:=by
 cases hA:s.A with
 |none=>
  have hc:=h.nil hA
  have h0:s.l= []:=List.eq_nil_of_length_eq_zero (by have:=h.le;omega)
  have e2:s.v= .slice none 0 0:=by simp [Sl.v,hA,h0,hc]
  rw [e2,h0,run_convert_bytes_string w src dst e none 0 0 hs he hd]
  simp [Conv.bytesToString]
  rfl
 |some ad=>
  have e2:s.v= .slice (some ad) s.l.length s.c:=by simp [Sl.v,hA]
  rw [e2]
  refine run_convert_bytes_back w src dst e ad s.c s.l hs he hd fun j hj=>?_
  obtain ⟨b,o,h1,_,h3⟩:=h.row (fun e=>by rw [e] at hj;simp at hj)
  rw [hA] at h1
  cases h1
  rw [add_plain]
  have:=h3 j _ (List.getElem?_eq_getElem hj) 0 _ rfl
  rwa [Nat.mul_one,Nat.add_zero] at this
theorem gen_b2s {src dst:TypeId} {x:Operand} (hop:o.op= .convert src dst x) {s:Sl UInt8} (h:SlAt B w u8L 1 s) (hs:P.underlying src=some (.slice e)) (he:P.underlying e=some (.int .u8)) (hd:P.underlying dst=some .string) (hx:ρ x=s.v) (hk:g (str s.l) w):Gen P ρ o w g:=
 gen_v (by simp only [execOp,hop,Sem.run_bind,hx,run_b2s hs he hd h,Result.andThen_ok,Sem.run_pure]) hk
theorem bytes_eq (a b:List UInt8):((⟨a.toArray⟩:ByteArray).toList==(⟨b.toArray⟩:ByteArray).toList)=decide (a=b):=by
 rw [ByteArray.toList_eq,ByteArray.toList_eq]
 by_cases h:a=b
 ·simp [h]
 ·simp [h]
theorem gen_streq {op:BinOp} {t t2:TypeId} {x y:Operand} (hop:o.op= .binOp op t x y t2) {a b:List UInt8} (hx:ρ x=str a) (hy:ρ y=str b) (ho:op= .eql∨op= .neq) (hk:g (.bool (if op= .eql then decide (a=b) else !decide (a=b))) w):Gen P ρ o w g:=by
 have hg:∀op,eqGuard op t x y (str a) (str b)=pure ():=fun op=>by cases op<;>simp [eqGuard]
 rcases ho with rfl|rfl
 ·refine gen_bin hop (by rw [hx,hy];exact hg _) ?_ hk
  simp only [hx,hy,binOp_string_eql,bytes_eq,Sem.run_pure]
  rfl
 ·refine gen_bin hop (by rw [hx,hy];exact hg _) ?_ hk
  simp only [hx,hy,binOp_string_neq,bytes_eq,Sem.run_pure]
  rfl
end
attribute [irreducible] rowR
end Go.Proofs.YtpbapnlnheahnaaGreatDoor
