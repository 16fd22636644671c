/- MImprintBytes7: parts of the proof of ImprintBytes: OpenP, ElId, BlkT, OpenK, Up, Blob, Sess, OpS, HintE, Sta. No condition of their own. -/
import Derived.Test.YtpbapnlnheahnaaGreatDoorMImprintBytes6
import Derived.Test.YtpbapnlnheahnaaGreatDoorMImprintBytes1
import Derived.Test.YtpbapnlnheahnaaGreatDoorMImprintBytessSlice
import Derived.Test.YtpbapnlnheahnaaGreatDoorRows
set_option linter.unusedSimpArgs false
set_option linter.unusedVariables false
namespace Go.Proofs.YtpbapnlnheahnaaGreatDoor
open Go.RowKit
set_option maxRecDepth 100000
set_option maxHeartbeats 2000000
section
variable {H : Type}
def Rdb (enc:TypeId×Value→H) (P:Program) (w:World) (t:TypeId) (cs:List Value):Prop:=∃fuel x,DataW.trod enc P w 0 (fun _=>true) true fuel t cs=some x
variable {enc : TypeId × Value → H} {P : Program} {w : World} {t e : TypeId} {cs : List Value}
theorem rdb_of {v:Value} {d:DataW H} {ps:List MemPlace} (h:DataW.Trod enc P w 0 (fun _=>true) true t v d ps):Rdb enc P w t v.cells.toList:=h.imp fun _ h=>⟨_,h⟩
theorem rdb_int {k:IntKind} (ht:P.underlying t=some (.int k)) (h:Rdb enc P w t cs):∃n,cs= [.int k n]∧(Lit.int k n).wf=true:=by
 obtain ⟨_,_,h⟩:=h
 obtain ⟨n,h1,_,h2⟩:=DataW.trod_int ht h
 exact ⟨n,h1,h2⟩
theorem rdb_struct {fs:Array Field} (ht:P.underlying t=some (.struct fs)) (h:Rdb enc P w t cs):cs.length=P.cellsOf t∧∀(i:Nat) f,fs[i]? =some f→Rdb enc P w f.type ((cs.drop f.offset).take (P.cellsOf f.type)):=by
 obtain ⟨_,_,h⟩:=h
 obtain ⟨xs,n,_,_,hl,hx,hf⟩:=DataW.trod_struct ht h
 refine ⟨hl,fun i f hi=>?_⟩
 have hlt:i < xs.length:=by rw [hx];exact (Array.getElem?_eq_some_iff.1 hi).1
 exact ⟨n,xs[i],by rw [hf i f hi,List.getElem?_eq_getElem hlt]⟩
theorem rdb_array {n:Nat} (ht:P.underlying t=some (.array n e)) (h:Rdb enc P w t cs):cs.length=P.cellsOf t∧∀(i:Nat),i < n→Rdb enc P w e ((cs.drop (i*P.cellsOf e)).take (P.cellsOf e)):=by
 obtain ⟨_,_,h⟩:=h
 obtain ⟨xs,m,_,_,hl,hx,hf⟩:=DataW.trod_array ht h
 refine ⟨hl,fun i hi=>?_⟩
 have hlt:i < xs.length:=by rw [hx];exact hi
 exact ⟨m,xs[i],by rw [hf i hi,List.getElem?_eq_getElem hlt]⟩
theorem mapM_all {α β:Type} {f:α→Option β}:∀{l:List α} {r:List β},l.mapM f=some r→∀(i:Nat) x,l[i]? =some x→∃y,r[i]? =some y∧f x=some y:=fun h i x hi=>by
 have h1:=mapM_some_get h i x hi
 have hl:=mapM_some_length h
 have hlt:i < _:=(List.getElem?_eq_some_iff.1 hi).1
 have h2:=List.getElem?_eq_getElem (show i < _ by rw [hl];exact hlt)
 exact ⟨_,h2,h1.trans h2⟩
theorem cells_of {a:Addr} {n:Nat} {l:List Value} (h:w.cells? 0 a n=some l):l.length=n∧∀(j:Nat) v,l[j]? =some v→w.cell? (a.add j)=some v:=by
 unfold World.cells? at h
 rw [if_pos (Nat.zero_le _)] at h
 have hl:=mapM_some_length h
 rw [List.length_range] at hl
 refine ⟨hl,fun j v hj=>?_⟩
 have hlt:j < n:=by rw [←hl];exact (List.getElem?_eq_some_iff.1 hj).1
 obtain ⟨y,hy,h1⟩:=mapM_all h j j (by simp [hlt])
 rw [hj] at hy
 cases hy
 exact h1
theorem cell_lt {a:Addr} {v:Value} (h:w.cell? a=some v):a.block < w.heap.size∧a.spot=none:=by
 unfold World.cell? at h
 split at h
 ·rename_i c _ _ hb
  split at h
  ·cases h
  ·rename_i hs
   exact ⟨(Array.getElem?_eq_some_iff.1 hb).1,by simpa using hs⟩
 ·cases h
theorem rdb_slice {α:Type} {ec:α→List Value} {sz:Nat} {Q:α→Prop} (ht:P.underlying t=some (.slice e)) (hsz:P.cellsOf e=sz) (h0:0 < sz) (dec:∀c,c.length=sz→Rdb enc P w e c→∃x,c=ec x∧Q x) (h:Rdb enc P w t cs):
  ∃s:Sl α,cs= [s.v]∧SlAt w.heap.size w ec sz s∧∀x∈s.l,Q x:=by
 obtain ⟨_,_,h⟩:=h
 rcases DataW.trod_slice ht h with ⟨rfl,_⟩|⟨a,len,cap,elems,rest,n,_,rfl,_,_,hl,hc,hel,he,_⟩
 ·exact ⟨Sl.nil,rfl, .none_,fun x hx=>by simp [Sl.nil] at hx⟩
 rw [hsz] at he
 have each:∀i,i < len→∃x,Q x∧(ec x).length=sz∧∀(j:Nat) v,(ec x)[j]? =some v→w.cell? ((a.add (i*sz)).add j)=some v:=fun i hi=>by
  have h1:=he i hi
  have h2:=List.getElem?_eq_getElem (show i < elems.length by omega)
  rw [h2] at h1
  obtain ⟨c,hc1,hc2⟩:=Option.bind_eq_some_iff.1 h1
  obtain ⟨hcl,hcell⟩:=cells_of hc1
  obtain ⟨x,rfl,hq⟩:=dec c hcl ⟨_,_,hc2⟩
  exact ⟨x,hq,hcl,hcell⟩
 have build:∀k,k≤len→∃l:List α,l.length=k∧(∀x∈l,Q x)∧∀(i:Nat) x,l[i]? =some x→(ec x).length=sz∧∀(j:Nat) v,(ec x)[j]? =some v→w.cell? ((a.add (i*sz)).add j)=some v:=by
  intro k
  induction k with
  |zero=>exact fun _=>⟨[],rfl,by simp,by simp⟩
  |succ k ih=>
   intro hk
   obtain ⟨l,h1,h2,h3⟩:=ih (by omega)
   obtain ⟨x,hq,hxl,hx⟩:=each k (by omega)
   refine ⟨l++ [x],by simp [h1],fun y hy=>?_,fun i y hi=>?_⟩
   ·rcases List.mem_append.1 hy with hy|hy
    ·exact h2 y hy
    ·simp at hy;subst hy;exact hq
   ·by_cases hik:i < k
    ·rw [List.getElem?_append_left (by omega)] at hi
     exact h3 i y hi
    ·rw [List.getElem?_append_right (by omega)] at hi
     have:i=k:=by
      have:=(List.getElem?_eq_some_iff.1 hi).1
      simp at this
      omega
     subst this
     simp [h1] at hi
     subst hi
     exact ⟨hxl,hx⟩
 obtain ⟨l,h1,h2,h3⟩:=build len (Nat.le_refl _)
 refine ⟨⟨some a,cap,l⟩,by simp [Sl.v,h1],⟨by show l.length≤cap;omega,hc,(fun hh=>by cases hh),fun hne=>?_⟩,h2⟩
 have hne':l≠ []:=hne
 obtain ⟨x,r,rfl⟩:∃x r,l=x::r:=by
  cases l with
  |nil=>exact (hne' rfl).elim
  |cons x r=>exact ⟨x,r,rfl⟩
 obtain ⟨hxl,hx⟩:=h3 0 x rfl
 have hc0:=hx 0 (ec x)[0] (List.getElem?_eq_getElem (by omega))
 simp only [Nat.zero_mul,Addr.add,if_true] at hc0
 obtain ⟨hlt,hsp⟩:=cell_lt hc0
 obtain ⟨b,o,sp⟩:=a
 have hsp':sp=none:=hsp
 subst hsp'
 refine ⟨b,o,rfl,hlt,fun i y hi j v hj=>?_⟩
 have:=(h3 i y hi).2 j v hj
 rwa [add_plain,add_plain] at this
theorem drop_split (l:List Value) (o n:Nat):l.drop o=(l.drop o).take n++l.drop (o+n):=by
 rw [←List.drop_drop,List.take_append_drop]
end
theorem rdb_u8s {H:Type} {enc:TypeId×Value→H} {w:World} {t:TypeId} {n:Nat} {cs:List Value} (ht:Tryz.prog.underlying t=some (.array n 5)) (hn:Tryz.prog.cellsOf t=n) (h:Rdb enc Tryz.prog w t cs):∃l:List UInt8,l.length=n∧cs=l.map u8:=by
 obtain ⟨hl,he⟩:=rdb_array ht h
 rw [hn] at hl
 have hc:Tryz.prog.cellsOf 5=1:=by kernel_rfl
 rw [hc] at he
 have each:∀i,i < n→∃x:UInt8,cs[i]? =some (u8 x):=fun i hi=>by
  obtain ⟨m,h1,hw⟩:=rdb_int Tryz.underlying5 (he i hi)
  obtain ⟨k,rfl,hk⟩:=lit_u8 hw
  refine ⟨UInt8.ofNat k,?_⟩
  have h2:((cs.drop (i*1)).take 1)[0]? =some (.int .u8 (k:Int)):=by rw [h1];rfl
  rw [List.getElem?_take_of_lt (by omega),List.getElem?_drop] at h2
  simp only [Nat.mul_one,Nat.add_zero] at h2
  rw [h2]
  have:(UInt8.ofNat k).toNat=k:=by simp;omega
  rw [show u8 (UInt8.ofNat k)= .int .u8 ((UInt8.ofNat k).toNat:Int) from rfl,this]
 refine ⟨(List.range n).map fun i=>match cs[i]? with|some (Value.int _ m)=>UInt8.ofNat m.toNat|_=>0,by simp,?_⟩
 apply List.ext_getElem?
 intro i
 by_cases hi:i < n
 ·obtain ⟨x,hx⟩:=each i hi
  have:UInt8.ofNat (x.toNat:Int).toNat=x:=by simp
  simp [hx,hi]
 ·rw [List.getElem?_eq_none (by omega),List.getElem?_eq_none (by simp;omega)]
theorem rdb_id {H:Type} {enc:TypeId×Value→H} {w:World} {cs:List Value} (h:Rdb enc Tryz.prog w 48 cs):∃x:Id,cs=x.c:=by
 obtain ⟨l,hl,rfl⟩:=rdb_u8s (n:=32) (by kernel_rfl) (by kernel_rfl) h
 refine ⟨⟨l.toArray,by simp [hl]⟩,?_⟩
 have:=congrArg Array.toList (Id.cells ⟨l.toArray,by simp [hl]⟩)
 rw [List.toList_toArray,List.toList_toArray] at this
 exact this
theorem rdb_u32 {H:Type} {enc:TypeId×Value→H} {w:World} {cs:List Value} (h:Rdb enc Tryz.prog w 24 cs):∃x:UInt32,cs= [u32 x]:=by
 obtain ⟨n,rfl,hw⟩:=rdb_int Tryz.underlying24 h
 obtain ⟨x,rfl⟩:=lit_u32 hw
 exact ⟨x,rfl⟩
theorem rdb_i64 {H:Type} {enc:TypeId×Value→H} {w:World} {cs:List Value} (h:Rdb enc Tryz.prog w 3 cs):∃x:Int,cs= [i64 x]∧ -9223372036854775808≤x∧x≤9223372036854775807:=by
 obtain ⟨n,rfl,hw⟩:=rdb_int Tryz.underlying3 h
 exact ⟨n,rfl,lit_i64 hw⟩
theorem rdb_bytes {H:Type} {enc:TypeId×Value→H} {w:World} {cs:List Value} (h:Rdb enc Tryz.prog w 34 cs):∃s:Bytes,cs= [s.v]∧SlAt w.heap.size w u8L 1 s:=by
 obtain ⟨s,h1,h2,_⟩:=rdb_slice (ec:=u8L) (sz:=1) (Q:=fun _=>True) Tryz.underlying34 (by kernel_rfl) (by omega) (fun c _ hc=>by
  obtain ⟨n,rfl,hw⟩:=rdb_int Tryz.underlying5 hc
  obtain ⟨k,rfl,hk⟩:=lit_u8 hw
  refine ⟨UInt8.ofNat k,?_,trivial⟩
  have:(UInt8.ofNat k).toNat=k:=by simp;omega
  rw [show u8L (UInt8.ofNat k)= [.int .u8 ((UInt8.ofNat k).toNat:Int)] from rfl,this]) h
 exact ⟨s,h1,h2⟩
theorem rdb_tier {H:Type} {enc:TypeId×Value→H} {w:World} {cs:List Value} (h:Rdb enc Tryz.prog w 88 cs):∃x:Tier,cs=x.c∧SlAt w.heap.size w u8L 1 x.tx:=by
 obtain ⟨hl,hf⟩:=rdb_struct (fs:=Tryz.prog.fieldsOf 88) (by kernel_rfl) h
 obtain ⟨a,ha⟩:=rdb_u32 (cs:=(cs.drop 0).take 1) (hf 0 _ rfl)
 obtain ⟨b,hb,hs⟩:=rdb_bytes (cs:=(cs.drop 1).take 1) (hf 1 _ rfl)
 have h1:=drop_split cs 0 1
 have h2:=drop_split cs 1 1
 rw [ha,h2,hb,List.drop_zero] at h1
 have h3:cs.drop 2= []:=List.drop_eq_nil_of_le (by rw [hl];exact Nat.le_of_eq (by kernel_rfl))
 rw [h3] at h1
 exact ⟨⟨a,b⟩,h1,hs⟩
theorem rdb_pay {H:Type} {enc:TypeId×Value→H} {w:World} {cs:List Value} (h:Rdb enc Tryz.prog w 57 cs):∃x:Payload,cs= [x.v]∧PayAt w.heap.size w x:=by
 obtain ⟨hl,hf⟩:=rdb_struct (fs:=Tryz.prog.fieldsOf 57) (by kernel_rfl) h
 obtain ⟨s,hs,hat,hq⟩:=rdb_slice (cs:=(cs.drop 0).take 1) (ec:=Tier.c) (sz:=2) (Q:=fun x=>SlAt w.heap.size w u8L 1 x.tx) Tryz.underlying55 (by kernel_rfl) (by omega) (fun c _ hc=>rdb_tier hc) (hf 0 _ rfl)
 have h1:=drop_split cs 0 1
 have h3:cs.drop 1= []:=List.drop_eq_nil_of_le (by rw [hl];exact Nat.le_of_eq (by kernel_rfl))
 rw [hs,show (0+1)=1 from rfl,h3,List.drop_zero] at h1
 exact ⟨s,h1,hat,hq⟩
theorem agg_arg {H:Type} {enc:TypeId×Value→H} {P:Program} {w:World} {r:Reach} {b0:Nat} {t:TypeId} {v:Value} {d:DataW H} {ps:List MemPlace} (hs:(match P.underlying t with|some (.struct _)|some (.array _ _)=>true|_=>false)=true) (hval:Value.okWide P w r b0 t v) (h:DataW.Trod enc P w 0 (fun _=>true) true t v d ps):
  ∃cs:List Value,v= .agg cs.toArray∧Rdb enc P w t cs:=by
 have h1:=rdb_of h
 unfold Value.okWide at hval
 split at hval
 ·obtain ⟨cs,rfl,_⟩:=hval
  exact ⟨cs.toList,rfl,h1⟩
 ·obtain ⟨cs,rfl,_⟩:=hval
  exact ⟨cs.toList,rfl,h1⟩
 ·rename_i h2 h3
  split at hs
  ·rename_i fs hu;exact (h2 fs hu).elim
  ·rename_i n e hu;exact (h3 n e hu).elim
  ·cases hs
theorem el_id:ElT Tryz.prog 49 48 32 32:=elt_of (z:=Id.z.v) Tryz.underlying49 (by kernel_rfl) rfl (by omega)
theorem idL_one {l:List Id}:∀x∈l,∀u∈Id.c x,u.oneCell'=true:=fun x _ u hu=>by
 rw [←(show (Id.c x).toArray.toList=Id.c x from rfl),←Id.cells] at hu
 simp at hu
 obtain ⟨y,_,rfl⟩:=hu
 rfl
structure Blk where
 hash:Id
 parent:Id
 tx:Sl Id
abbrev Blk.c (x:Blk):List Value:=(u8 x.hash[0]::u8 x.hash[1]::u8 x.hash[2]::u8 x.hash[3]::u8 x.hash[4]::u8 x.hash[5]::u8 x.hash[6]::u8 x.hash[7]::u8 x.hash[8]::u8 x.hash[9]::u8 x.hash[10]::u8 x.hash[11]::u8 x.hash[12]::u8 x.hash[13]::u8 x.hash[14]::u8 x.hash[15]::u8 x.hash[16]::u8 x.hash[17]::u8 x.hash[18]::u8 x.hash[19]::u8 x.hash[20]::u8 x.hash[21]::u8 x.hash[22]::u8 x.hash[23]::u8 x.hash[24]::u8 x.hash[25]::u8 x.hash[26]::u8 x.hash[27]::u8 x.hash[28]::u8 x.hash[29]::u8 x.hash[30]::u8 x.hash[31]::u8 x.parent[0]::u8 x.parent[1]::u8 x.parent[2]::u8 x.parent[3]::u8 x.parent[4]::u8 x.parent[5]::u8 x.parent[6]::u8 x.parent[7]::u8 x.parent[8]::u8 x.parent[9]::u8 x.parent[10]::u8 x.parent[11]::u8 x.parent[12]::u8 x.parent[13]::u8 x.parent[14]::u8 x.parent[15]::u8 x.parent[16]::u8 x.parent[17]::u8 x.parent[18]::u8 x.parent[19]::u8 x.parent[20]::u8 x.parent[21]::u8 x.parent[22]::u8 x.parent[23]::u8 x.parent[24]::u8 x.parent[25]::u8 x.parent[26]::u8 x.parent[27]::u8 x.parent[28]::u8 x.parent[29]::u8 x.parent[30]::u8 x.parent[31]::x.tx.v:: [])
abbrev Blk.v (x:Blk):Value:= .agg (List.toArray (u8 x.hash[0]::u8 x.hash[1]::u8 x.hash[2]::u8 x.hash[3]::u8 x.hash[4]::u8 x.hash[5]::u8 x.hash[6]::u8 x.hash[7]::u8 x.hash[8]::u8 x.hash[9]::u8 x.hash[10]::u8 x.hash[11]::u8 x.hash[12]::u8 x.hash[13]::u8 x.hash[14]::u8 x.hash[15]::u8 x.hash[16]::u8 x.hash[17]::u8 x.hash[18]::u8 x.hash[19]::u8 x.hash[20]::u8 x.hash[21]::u8 x.hash[22]::u8 x.hash[23]::u8 x.hash[24]::u8 x.hash[25]::u8 x.hash[26]::u8 x.hash[27]::u8 x.hash[28]::u8 x.hash[29]::u8 x.hash[30]::u8 x.hash[31]::u8 x.parent[0]::u8 x.parent[1]::u8 x.parent[2]::u8 x.parent[3]::u8 x.parent[4]::u8 x.parent[5]::u8 x.parent[6]::u8 x.parent[7]::u8 x.parent[8]::u8 x.parent[9]::u8 x.parent[10]::u8 x.parent[11]::u8 x.parent[12]::u8 x.parent[13]::u8 x.parent[14]::u8 x.parent[15]::u8 x.parent[16]::u8 x.parent[17]::u8 x.parent[18]::u8 x.parent[19]::u8 x.parent[20]::u8 x.parent[21]::u8 x.parent[22]::u8 x.parent[23]::u8 x.parent[24]::u8 x.parent[25]::u8 x.parent[26]::u8 x.parent[27]::u8 x.parent[28]::u8 x.parent[29]::u8 x.parent[30]::u8 x.parent[31]::x.tx.v:: []))
theorem rdb_ids {H:Type} {enc:TypeId×Value→H} {w:World} {cs:List Value} (h:Rdb enc Tryz.prog w 49 cs):∃s:Sl Id,cs= [s.v]∧SlAt w.heap.size w Id.c 32 s:=by
 obtain ⟨s,h1,h2,_⟩:=rdb_slice (ec:=Id.c) (sz:=32) (Q:=fun _=>True) Tryz.underlying49 (by kernel_rfl) (by omega) (fun c _ hc=>by
  obtain ⟨x,hx⟩:=rdb_id hc
  exact ⟨x,hx,trivial⟩) h
 exact ⟨s,h1,h2⟩
section
variable {H : Type}
theorem bulk_one (d:DataW H):1≤Rows.uptoBulk d:=by
 cases d with
 |lit x=>cases x<;>simp [Rows.uptoBulk]
 |_=>simp [Rows.uptoBulk]
theorem bulk_len:∀(l:List (DataW H)),l.length≤Rows.uptoBulkAll l
 | []=>by simp
 |d::l=>by
  have h1:=bulk_one d
  have h2:=bulk_len l
  simp only [Rows.uptoBulkAll,List.length_cons]
  omega
theorem bulk_mem:∀{l:List (DataW H)} {d:DataW H},d∈l→Rows.uptoBulk d≤Rows.uptoBulkAll l
 |e::l,d,h=>by
  rcases List.mem_cons.1 h with rfl|h
  ·simp only [Rows.uptoBulkAll];omega
  ·have:=bulk_mem h
   simp only [Rows.uptoBulkAll];omega
def RdbU (N:Nat) (enc:TypeId×Value→H) (P:Program) (w:World) (t:TypeId) (cs:List Value):Prop:=∃fuel x,DataW.trod enc P w 0 (fun _=>true) true fuel t cs=some x∧Rows.uptoBulk x.1≤N
variable {N : Nat} {enc : TypeId × Value → H} {P : Program} {w : World} {t e : TypeId} {cs : List Value}
theorem RdbU.rdb (h:RdbU N enc P w t cs):Rdb enc P w t cs:=by
 obtain ⟨f,x,h,_⟩:=h
 exact ⟨f,x,h⟩
theorem rdbU_of {v:Value} {d:DataW H} {ps:List MemPlace} (h:DataW.Trod enc P w 0 (fun _=>true) true t v d ps) (hN:Rows.uptoBulk d≤N):RdbU N enc P w t v.cells.toList:=by
 obtain ⟨f,h⟩:=h
 exact ⟨f,_,h,hN⟩
theorem rdbU_struct {fs:Array Field} (ht:P.underlying t=some (.struct fs)) (h:RdbU N enc P w t cs):cs.length=P.cellsOf t∧∀(i:Nat) f,fs[i]? =some f→RdbU N enc P w f.type ((cs.drop f.offset).take (P.cellsOf f.type)):=by
 obtain ⟨_,_,h,hN⟩:=h
 obtain ⟨xs,n,_,rfl,hl,hx,hf⟩:=DataW.trod_struct ht h
 refine ⟨hl,fun i f hi=>?_⟩
 have hlt:i < xs.length:=by rw [hx];exact (Array.getElem?_eq_some_iff.1 hi).1
 refine ⟨n,xs[i],by rw [hf i f hi,List.getElem?_eq_getElem hlt],Nat.le_trans (bulk_mem (List.mem_map_of_mem (f:=fun x=>x.1) (List.getElem_mem hlt))) ?_⟩
 simp only [Rows.uptoBulk] at hN
 omega
theorem rdbU_slice {α:Type} {ec:α→List Value} {sz:Nat} {Q:α→Prop} (ht:P.underlying t=some (.slice e)) (hsz:P.cellsOf e=sz) (h0:0 < sz) (dec:∀c,c.length=sz→RdbU N enc P w e c→∃x,c=ec x∧Q x) (h:RdbU N enc P w t cs):
  ∃s:Sl α,cs= [s.v]∧SlAt w.heap.size w ec sz s∧s.l.length≤N∧∀x∈s.l,Q x:=by
 obtain ⟨_,_,h,hN⟩:=h
 rcases DataW.trod_slice ht h with ⟨rfl,_⟩|⟨a,len,cap,elems,rest,n,_,rfl,rfl,_,hl,hc,hel,he,_⟩
 ·exact ⟨Sl.nil,rfl, .none_,Nat.zero_le _,fun x hx=>by simp [Sl.nil] at hx⟩
 rw [hsz] at he
 have hN1:Rows.uptoBulkAll (elems.map (·.1))+Rows.uptoBulkAll (rest.map (·.1))+1≤N:=by simpa [Rows.uptoBulk] using hN
 have hN2:=bulk_len (elems.map (·.1))
 rw [List.length_map] at hN2
 have each:∀i,i < len→∃x,Q x∧(ec x).length=sz∧∀(j:Nat) v,(ec x)[j]? =some v→w.cell? ((a.add (i*sz)).add j)=some v:=fun i hi=>by
  have h1:=he i hi
  have h2:=List.getElem?_eq_getElem (show i < elems.length by omega)
  rw [h2] at h1
  obtain ⟨c,hc1,hc2⟩:=Option.bind_eq_some_iff.1 h1
  obtain ⟨hcl,hcell⟩:=cells_of hc1
  obtain ⟨x,rfl,hq⟩:=dec c hcl ⟨_,_,hc2,Nat.le_trans (bulk_mem (l:=elems.map (·.1)) (List.mem_map_of_mem (List.getElem_mem _))) (by omega)⟩
  exact ⟨x,hq,hcl,hcell⟩
 have build:∀k,k≤len→∃l:List α,l.length=k∧(∀x∈l,Q x)∧∀(i:Nat) x,l[i]? =some x→(ec x).length=sz∧∀(j:Nat) v,(ec x)[j]? =some v→w.cell? ((a.add (i*sz)).add j)=some v:=by
  intro k
  induction k with
  |zero=>exact fun _=>⟨[],rfl,by simp,by simp⟩
  |succ k ih=>
   intro hk
   obtain ⟨l,h1,h2,h3⟩:=ih (by omega)
   obtain ⟨x,hq,hxl,hx⟩:=each k (by omega)
   refine ⟨l++ [x],by simp [h1],fun y hy=>?_,fun i y hi=>?_⟩
   ·rcases List.mem_append.1 hy with hy|hy
    ·exact h2 y hy
    ·simp at hy;subst hy;exact hq
   ·by_cases hik:i < k
    ·rw [List.getElem?_append_left (by omega)] at hi
     exact h3 i y hi
    ·rw [List.getElem?_append_right (by omega)] at hi
     have:i=k:=by
      have:=(List.getElem?_eq_some_iff.1 hi).1
      simp at this
      omega
     subst this
     simp [h1] at hi
     subst hi
     exact ⟨hxl,hx⟩
 obtain ⟨l,h1,h2,h3⟩:=build len (Nat.le_refl _)
 refine ⟨⟨some a,cap,l⟩,by simp [Sl.v,h1],⟨by show l.length≤cap;omega,hc,(fun hh=>by cases hh),fun hne=>?_⟩,by show l.length≤N;omega,h2⟩
 have hne':l≠ []:=hne
 obtain ⟨x,r,rfl⟩:∃x r,l=x::r:=by
  cases l with
  |nil=>exact (hne' rfl).elim
  |cons x r=>exact ⟨x,r,rfl⟩
 obtain ⟨hxl,hx⟩:=h3 0 x rfl
 have hc0:=hx 0 (ec x)[0] (List.getElem?_eq_getElem (by omega))
 simp only [Nat.zero_mul,Addr.add,if_true] at hc0
 obtain ⟨hlt,hsp⟩:=cell_lt hc0
 obtain ⟨b,o,sp⟩:=a
 have hsp':sp=none:=hsp
 subst hsp'
 refine ⟨b,o,rfl,hlt,fun i y hi j v hj=>?_⟩
 have:=(h3 i y hi).2 j v hj
 rwa [add_plain,add_plain] at this
theorem rdbU_len {α:Type} {s:Sl α} (ht:P.underlying t=some (.slice e)) (h:RdbU N enc P w t [s.v]):s.l.length≤N:=by
 obtain ⟨_,_,h,hN⟩:=h
 rcases DataW.trod_slice ht h with ⟨h1,_⟩|⟨a,len,cap,elems,rest,n,_,h1,rfl,_,_,_,hl,_⟩
 ·simp [Sl.v] at h1
  rw [h1.2.1]
  exact Nat.zero_le _
 ·simp [Sl.v] at h1
  have h2:=bulk_len (elems.map (·.1))
  rw [List.length_map] at h2
  simp only [Rows.uptoBulk] at hN
  omega
end
def Hint.z:Hint:= #v[0,0,0,0,0,0,0,0,0,0,0,0,0,0,0,0]
structure Blob where
 key:Key
 hint:Hint
 data:Bytes
abbrev Blob.c (x:Blob):List Value:=(u32 x.key.ses::u32 x.key.seq::u8 x.hint[0]::u8 x.hint[1]::u8 x.hint[2]::u8 x.hint[3]::u8 x.hint[4]::u8 x.hint[5]::u8 x.hint[6]::u8 x.hint[7]::u8 x.hint[8]::u8 x.hint[9]::u8 x.hint[10]::u8 x.hint[11]::u8 x.hint[12]::u8 x.hint[13]::u8 x.hint[14]::u8 x.hint[15]::x.data.v:: [])
abbrev Blob.v (x:Blob):Value:= .agg (List.toArray (u32 x.key.ses::u32 x.key.seq::u8 x.hint[0]::u8 x.hint[1]::u8 x.hint[2]::u8 x.hint[3]::u8 x.hint[4]::u8 x.hint[5]::u8 x.hint[6]::u8 x.hint[7]::u8 x.hint[8]::u8 x.hint[9]::u8 x.hint[10]::u8 x.hint[11]::u8 x.hint[12]::u8 x.hint[13]::u8 x.hint[14]::u8 x.hint[15]::x.data.v:: []))
def Blob.z:Blob:=⟨⟨0,0⟩,Hint.z,Sl.nil⟩
theorem el_blob:ElT Tryz.prog 28 46 19 48:=elt_of (z:=Blob.z.v) Tryz.underlying28 (by kernel_rfl) rfl (by omega)
theorem blob_one {l:List Blob}:∀x∈l,∀u∈Blob.c x,u.oneCell'=true:=fun x _ u hu=>by
 simp only [Blob.c,List.mem_cons,List.not_mem_nil,or_false] at hu
 rcases hu with rfl|rfl|rfl|rfl|rfl|rfl|rfl|rfl|rfl|rfl|rfl|rfl|rfl|rfl|rfl|rfl|rfl|rfl|rfl<;>rfl
structure BlP where
 key:Key
 hint:Hint
 bytes:List UInt8
deriving DecidableEq
def Blob.p (x:Blob):BlP:=⟨x.key,x.hint,x.data.l⟩
structure BlobsAt (B:Nat) (w:World) (l:Sl Blob):Prop where
 row:SlAt B w Blob.c 19 l
 data:∀x∈l.l,SlAt B w u8L 1 x.data
theorem BlobsAt.keep {S:Nat→Prop} {B:Nat} {w w':World} {l:Sl Blob} (h:BlobsAt B w l) (hc:Chg S w w') (hB:∀b,S b→B≤b):BlobsAt B w' l:=⟨h.row.keep hc hB,fun x hx=>(h.data x hx).keep hc hB⟩
theorem BlobsAt.more {B B':Nat} {w:World} {l:Sl Blob} (h:BlobsAt B w l) (hB:B≤B'):BlobsAt B' w l:=⟨h.row.more hB,fun x hx=>(h.data x hx).more hB⟩
theorem u32K:KEnc Tryz.prog 24 u32:=u32_enc Tryz.underlying24
structure Sess where
 id:UInt32
 quota:UInt32
 used:UInt32
 exp:UInt32
 deriving DecidableEq
abbrev Sess.v (s:Sess):Value:= .agg #[u32 s.id,u32 s.quota,u32 s.used,u32 s.exp]
def Sess.z:Sess:=⟨0,0,0,0⟩
abbrev Sess.c (s:Sess):List Value:= [u32 s.id,u32 s.quota,u32 s.used,u32 s.exp]
theorem el_ses:ElT Tryz.prog 27 103 4 16:=elt_of (z:=Sess.z.v) Tryz.underlying27 (by kernel_rfl) rfl (by omega)
theorem ses_one {l:List Sess}:∀x∈l,∀u∈Sess.c x,u.oneCell'=true:=fun x _ u hu=>by
 simp only [Sess.c,List.mem_cons,List.not_mem_nil,or_false] at hu
 rcases hu with rfl|rfl|rfl|rfl<;>rfl
abbrev tabRs (b m:Nat) (room:Int) (l:List (UInt32×Sess)):List Res:= [cel b 209 #[.int .i64 room, .map (some m)],mapR u32 Sess.v m l]
def tabR (b m:Nat) (room:Int) (l:List (UInt32×Sess)):Res:=star (tabRs b m room l)
theorem none_no {w:World} {b m:Nat} {room:Int} (hc:w.heap[b]? =some (.cells #[.int .i64 room, .map (some m)] 209)):
  Calls Tryz.prog 158 #[ptr b] w fun e w'=>e= .returned (.bool false)∧Chg N0 w w':=by
 have c1:w.cell? ⟨b,1,none⟩=some (.map (some m)):=cell_of_heap hc rfl
 refine calls_x (args:= [_]) tabOk Tryz.func158 Tryz.ntmps158 Tryz.results158 rfl (Nat.le_of_ble_eq_true rfl) ?_
 ((conv=>whnf);repeat' ((first|((with_reducible apply br_id);with_reducible refine br_f ?_)|((with_reducible apply ld_id);refine ld_of ‹_› ?_))<;>(conv=>whnf)))
 refine ps_of ?_
 exact ⟨rfl,Chg.refl _ _⟩
theorem sesnew_any (w0:World) (n:Int):
  Calls Tryz.prog 101 #[.int .i64 n] w0 fun e w'=>∃b m,e= .returned (ptr b)∧Made (tabR b m (max n 0) []) w0 w':=by
 have hp:=Hp.start (S:=N0) w0
 refine calls_x (args:= [_]) tabOk Tryz.func101 Tryz.ntmps101 Tryz.results101 rfl (Nat.le_of_ble_eq_true rfl) ?_
 ((conv=>whnf);repeat' ((first|((with_reducible apply al_id);refine al_cel hp ?_;clear hp;intro bb w hp)|((with_reducible apply gen_id);first|((refine gen_mmake rfl u32 Sess.v hp ?_);clear hp;intro bb w hp)|(apply gen_build;exact rfl;exact rfl)|(apply gen_max;exact rfl;exact rfl;exact rfl)))<;>(conv=>whnf)))
 exact ps_of ⟨_,_,rfl,hp.made (.refl _)⟩
def grantE (l:List (UInt32×Sess)) (room:Int) (s:Sess):Nat:=
 if s.quota.toNat < 1∨64 < s.quota.toNat∨s.quota.toNat < s.used.toNat then 1 else if (l.lookup s.id).isSome then 6 else if room≤l.length then 16 else 0
def grantL (l:List (UInt32×Sess)) (room:Int) (s:Sess):List (UInt32×Sess):=if grantE l room s=0 then mput l s.id s else l
theorem grant_any {w0:World} {b m:Nat} {room:Int} {l:List (UInt32×Sess)} (h:(tabR b m room l).ok w0) (s:Sess):
  Calls Tryz.prog 140 #[ptr b,s.v] w0 fun e w'=>e= .returned (errno (grantE l room s))∧Mut (tabR b m room l) (tabR b m room (grantL l room s)) w0 w':=by
 have hp:=Hp.open h
 refine calls_x (args:= [_,_]) tabOk Tryz.func140 Tryz.ntmps140 Tryz.results140 rfl (Nat.le_of_ble_eq_true rfl) ?_
 ((conv=>whnf);repeat' (((with_reducible apply al_id);refine al_cel hp ?_;clear hp;intro bb w hp)<;>(conv=>whnf)))
 refine cl_of (none_no (hp.cel_get (j:=1) rfl)) ?_
 rintro e w ⟨rfl,hc⟩
 replace hp:=hp.call0 hc
 refine ⟨_,rfl,?_⟩
 ((conv=>whnf);repeat' ((first|((with_reducible apply br_id);first|with_reducible refine br_t ?_|with_reducible refine br_f ?_|((with_reducible refine br_dec (fun hx=>?_) (fun hx=>?_))<;>(try (exfalso;first|omega|contradiction)))|((with_reducible refine br_s (fun hx=>?_) (fun hx=>?_))<;>(try (exfalso;first|omega|contradiction))))|((with_reducible apply cn_id);refine cn rfl ?_)|((with_reducible apply ld_id);apply ld_hs hp;(focus repeat' constructor);exact rfl)|((with_reducible apply ldn_id);apply lda_hs hp;(focus repeat' constructor);exact rfl)|((with_reducible apply al_id);refine al_cel hp ?_;clear hp;intro bb w hp)|((with_reducible apply st_id);apply sta_hs hp;(focus repeat' constructor);exact rfl;exact rfl;clear hp;intro w hp;(try dsimp only [List.set] at hp))|((with_reducible apply gen_id);(refine gen_put rfl hp 3 rfl rfl u32K Tryz.underlying207 (s.id) rfl (s) rfl ?_);clear hp;intro w hp)|((with_reducible apply dr_id);refine dr_auto tabOk (by kernel_rfl) (by decide+kernel) ?_;(try replace hp:=hp.drew))|((with_reducible apply rd_id);first|(refine rd_look rfl hp 2 rfl rfl u32K Tryz.underlying207 (z:=Sess.z) rfl _ rfl ?_)|(refine rd_mlen rfl hp 3 rfl rfl Tryz.underlying207 ?_)))<;>(conv=>whnf)))
 all_goals first|(refine ps_val (v':=errno 1) rfl ?_;have hg:grantE l room s=1:=(by unfold grantE;(repeat (first|rw [if_pos (by first|assumption|omega)]|rw [if_neg (by first|assumption|omega|(intro hh;simp_all))])));rw [hg];unfold grantL;rw [hg];exact ⟨rfl,hp.tail.tail.shut (.refl _)⟩)|(refine ps_val (v':=errno 6) rfl ?_;have hg:grantE l room s=6:=(by unfold grantE;(repeat (first|rw [if_pos (by first|assumption|omega)]|rw [if_neg (by first|assumption|omega|(intro hh;simp_all))])));rw [hg];unfold grantL;rw [hg];exact ⟨rfl,hp.tail.tail.shut (.refl _)⟩)|(refine ps_val (v':=errno 16) rfl ?_;have hg:grantE l room s=16:=(by unfold grantE;(repeat (first|rw [if_pos (by first|assumption|omega)]|rw [if_neg (by first|assumption|omega|(intro hh;simp_all))])));rw [hg];unfold grantL;rw [hg];exact ⟨rfl,hp.tail.tail.shut (.refl _)⟩)|(refine ps_val (v':=errno 0) rfl ?_;have hg:grantE l room s=0:=(by unfold grantE;(repeat (first|rw [if_pos (by first|assumption|omega)]|rw [if_neg (by first|assumption|omega|(intro hh;simp_all))])));rw [hg];unfold grantL;rw [hg];exact ⟨rfl,hp.tail.tail.shut (.refl _)⟩)
theorem get_any {w0:World} {b m:Nat} {room:Int} {l:List (UInt32×Sess)} (h:(tabR b m room l).ok w0) (id:UInt32):
  Calls Tryz.prog 141 #[ptr b,u32 id] w0 fun e w'=>e= .returned (.tuple #[((l.lookup id).getD Sess.z).v, .bool (l.lookup id).isSome])∧Mut (tabR b m room l) (tabR b m room l) w0 w':=by
 have hp:=Hp.open h
 refine calls_x (args:= [_,_]) tabOk Tryz.func141 Tryz.ntmps141 Tryz.results141 rfl (Nat.le_of_ble_eq_true rfl) ?_
 ((conv=>whnf);repeat' (((with_reducible apply al_id);refine al_cel hp ?_;clear hp;intro bb w hp)<;>(conv=>whnf)))
 refine cl_of (none_no (hp.cel_get (j:=1) rfl)) ?_
 rintro e w ⟨rfl,hc⟩
 replace hp:=hp.call0 hc
 refine ⟨_,rfl,?_⟩
 ((conv=>whnf);repeat' ((first|((with_reducible apply br_id);with_reducible refine br_f ?_)|((with_reducible apply cn_id);refine cn rfl ?_)|((with_reducible apply ld_id);apply ld_hs hp;(focus repeat' constructor);exact rfl)|((with_reducible apply ldn_id);apply lda_hs hp;(focus repeat' constructor);exact rfl)|((with_reducible apply al_id);refine al_cel hp ?_;clear hp;intro bb w hp)|((with_reducible apply st_id);apply sta_hs hp;(focus repeat' constructor);exact rfl;exact rfl;clear hp;intro w hp;(try dsimp only [List.set] at hp))|((with_reducible apply gen_id);(refine gen_look rfl hp 2 rfl rfl u32K Tryz.underlying207 (z:=Sess.z) rfl _ rfl ?_)))<;>(conv=>whnf)))
 refine ps_val (v':= .tuple #[((l.lookup id).getD Sess.z).v, .bool (l.lookup id).isSome]) rfl ?_
 exact ⟨rfl,hp.tail.tail.shut (.refl _)⟩
theorem rdb_sess {H:Type} {enc:TypeId×Value→H} {w:World} {cs:List Value} (h:Rdb enc Tryz.prog w 103 cs):∃x:Sess,cs= [u32 x.id,u32 x.quota,u32 x.used,u32 x.exp]:=by
 obtain ⟨hl,hf⟩:=rdb_struct (fs:=Tryz.prog.fieldsOf 103) (by kernel_rfl) h
 obtain ⟨a,ha⟩:=rdb_u32 (cs:=(cs.drop 0).take 1) (hf 0 _ rfl)
 obtain ⟨b,hb⟩:=rdb_u32 (cs:=(cs.drop 1).take 1) (hf 1 _ rfl)
 obtain ⟨c,hc⟩:=rdb_u32 (cs:=(cs.drop 2).take 1) (hf 2 _ rfl)
 obtain ⟨d,hd⟩:=rdb_u32 (cs:=(cs.drop 3).take 1) (hf 3 _ rfl)
 have h3:cs.drop 4= []:=List.drop_eq_nil_of_le (by rw [hl];exact Nat.le_of_eq (by kernel_rfl))
 have h1:=drop_split cs 0 1
 rw [drop_split cs (0+1) 1,drop_split cs (0+1+1) 1,drop_split cs (0+1+1+1) 1,ha,hb,hc,hd,h3,List.drop_zero] at h1
 exact ⟨⟨a,b,c,d⟩,h1⟩
theorem Hint.cells (x:Hint):(x.toList.map Extern.Stop.cell).toArray=x.c.toArray:=by
 have h:x.toList=(List.finRange 16).map fun i=>x[i]:=by
  apply List.ext_getElem
  ·simp
  ·intro i h1 h2;simp
 rw [h]
 rfl
theorem Hint.maps (x:Hint):x.toList.map u8=x.c:=by
 have:=congrArg Array.toList (Hint.cells x)
 rw [List.toList_toArray,List.toList_toArray] at this
 exact this
theorem hint_flat (X:Hint):((X.c.toArray).toList.drop 0).take (X.toList.length*1)=X.toList.flatMap u8L:=by
 rw [List.toList_toArray,List.drop_zero,←Hint.maps,List.take_of_length_le (by rw [List.length_map];omega),List.map_eq_flatMap]
theorem cel_out {S:Nat→Prop} {w0 w:World} {rs:List Res} {r:Res} {b:Nat} {t:TypeId} {cs:Array Value} (h:Hp S w0 w (cel b t cs::rs)) (hr:r∈rs):¬r.dom b:=(List.pairwise_cons.1 h.sep).1 r hr b (cel_dom.2 rfl)
theorem id_flat (X:Id):((X.c.toArray).toList.drop 0).take (X.toList.length*1)=X.toList.flatMap u8L:=by
 have h1:X.toList.map u8=X.c:=by
  have:=congrArg Array.toList (Id.cells X)
  rw [List.toList_toArray,List.toList_toArray] at this
  exact this
 have h2:X.toList.flatMap u8L=X.toList.map u8:=by rw [List.map_eq_flatMap]
 rw [h2,List.toList_toArray,List.drop_zero,←h1,List.take_of_length_le (by rw [List.length_map];omega)]
structure Cfg where
 dep:Int
 stp:Int
 kep:Int
 ses:Int
 cap:Int
 com:Int
 deriving DecidableEq
abbrev Cfg.c (x:Cfg):List Value:= [i64 x.dep,i64 x.stp,i64 x.kep,i64 x.ses,i64 x.cap,i64 x.com]
abbrev Cfg.v (x:Cfg):Value:= .agg #[i64 x.dep,i64 x.stp,i64 x.kep,i64 x.ses,i64 x.cap,i64 x.com]
structure Sta where
 cfg:Cfg
 ht:UInt32
 halt:Int
 next:UInt32
 win:Sl Blk
 ses:Sl Sess
 blobs:Sl Blob
 jobs:Sl Job
abbrev Sta.c (x:Sta):List Value:=(i64 x.cfg.dep::i64 x.cfg.stp::i64 x.cfg.kep::i64 x.cfg.ses::i64 x.cfg.cap::i64 x.cfg.com::u32 x.ht::i64 x.halt::u32 x.next::x.win.v::x.ses.v::x.blobs.v::x.jobs.v:: [])
abbrev Sta.v (x:Sta):Value:= .agg (List.toArray (i64 x.cfg.dep::i64 x.cfg.stp::i64 x.cfg.kep::i64 x.cfg.ses::i64 x.cfg.cap::i64 x.cfg.com::u32 x.ht::i64 x.halt::u32 x.next::x.win.v::x.ses.v::x.blobs.v::x.jobs.v:: []))
structure StaAt (B:Nat) (w:World) (x:Sta):Prop where
 win:SlAt B w Blk.c 65 x.win
 tx:∀b∈x.win.l,SlAt B w Id.c 32 b.tx
 ses:SlAt B w Sess.c 4 x.ses
 blobs:BlobsAt B w x.blobs
 jobs:SlAt B w Job.c 38 x.jobs
 pay:∀j∈x.jobs.l,PayAt B w j.pay
theorem StaAt.keep {S:Nat→Prop} {B:Nat} {w w':World} {x:Sta} (h:StaAt B w x) (hc:Chg S w w') (hB:∀b,S b→B≤b):StaAt B w' x:=
 ⟨h.win.keep hc hB,fun b hb=>(h.tx b hb).keep hc hB,h.ses.keep hc hB,h.blobs.keep hc hB,h.jobs.keep hc hB,fun j hj=>(h.pay j hj).keep hc hB⟩
theorem PayAt.more {B B':Nat} {w:World} {p:Payload} (h:PayAt B w p) (hB:B≤B'):PayAt B' w p:=⟨h.row.more hB,fun t ht=>(h.tx t ht).more hB⟩
theorem StaAt.more {B B':Nat} {w:World} {x:Sta} (h:StaAt B w x) (hB:B≤B'):StaAt B' w x:=
 ⟨h.win.more hB,fun b hb=>(h.tx b hb).more hB,h.ses.more hB,h.blobs.more hB,h.jobs.more hB,fun j hj=>(h.pay j hj).more hB⟩
structure StaB (N:Nat) (x:Sta):Prop where
 win:x.win.l.length≤N
 tx:∀b∈x.win.l,b.tx.l.length≤N
 ses:x.ses.l.length≤N
 blobs:x.blobs.l.length≤N
 data:∀b∈x.blobs.l,b.data.l.length≤N
 jobs:x.jobs.l.length≤N
section
variable {H : Type} {enc : TypeId × Value → H} {w : World} {cs : List Value} {N : Nat}
theorem rdb_key {cs:List Value} (h:Rdb enc Tryz.prog w 54 cs):∃x:Key,cs=x.c:=by
 obtain ⟨hl,hf⟩:=rdb_struct (fs:=Tryz.prog.fieldsOf 54) (by kernel_rfl) h
 obtain ⟨a,ha⟩:=rdb_u32 (cs:=(cs.drop 0).take 1) (hf 0 _ rfl)
 obtain ⟨b,hb⟩:=rdb_u32 (cs:=(cs.drop 1).take 1) (hf 1 _ rfl)
 have h1:=drop_split cs 0 1
 have h2:=drop_split cs 1 1
 rw [ha,h2,hb,List.drop_zero] at h1
 have h3:cs.drop 2= []:=List.drop_eq_nil_of_le (by rw [hl];exact Nat.le_of_eq (by kernel_rfl))
 rw [h3] at h1
 exact ⟨⟨a,b⟩,h1⟩
theorem rdb_hintS (h:Rdb enc Tryz.prog w 44 cs):∃x:Hint,cs=x.c:=by
 obtain ⟨l,hl,rfl⟩:=rdb_u8s (n:=16) (by kernel_rfl) (by kernel_rfl) h
 refine ⟨⟨l.toArray,by simpa using hl⟩,?_⟩
 have:=congrArg Array.toList (Hint.cells ⟨l.toArray,by simpa using hl⟩)
 rw [List.toList_toArray,List.toList_toArray] at this
 exact this
theorem rdb_job (h:Rdb enc Tryz.prog w 59 cs):∃x:Job,cs=x.c∧PayAt w.heap.size w x.pay∧ -9223372036854775808≤x.live∧x.live≤9223372036854775807:=by
 obtain ⟨hl,hf⟩:=rdb_struct (fs:=Tryz.prog.fieldsOf 59) (by kernel_rfl) h
 obtain ⟨k,hk⟩:=rdb_key (cs:=(cs.drop 0).take 2) (hf 0 _ rfl)
 obtain ⟨i,hi⟩:=rdb_id (cs:=(cs.drop 2).take 32) (hf 1 _ rfl)
 obtain ⟨a,ha⟩:=rdb_u32 (cs:=(cs.drop 34).take 1) (hf 2 _ rfl)
 obtain ⟨b,hb⟩:=rdb_u32 (cs:=(cs.drop 35).take 1) (hf 3 _ rfl)
 obtain ⟨l,hlv,hw⟩:=rdb_i64 (cs:=(cs.drop 36).take 1) (hf 4 _ rfl)
 obtain ⟨p,hp,hat⟩:=rdb_pay (cs:=(cs.drop 37).take 1) (hf 5 _ rfl)
 have h3:cs.drop 38= []:=List.drop_eq_nil_of_le (by rw [hl];exact Nat.le_of_eq (by kernel_rfl))
 have h1:=drop_split cs 0 2
 rw [drop_split cs (0+2) 32,drop_split cs (0+2+32) 1,drop_split cs (0+2+32+1) 1,drop_split cs (0+2+32+1+1) 1,drop_split cs (0+2+32+1+1+1) 1,hk,hi,ha,hb,hlv,hp,h3,List.drop_zero] at h1
 exact ⟨⟨k,i,a,b,l,p⟩,h1,hat,hw⟩
theorem rdbU_blob (h:RdbU N enc Tryz.prog w 46 cs):∃x:Blob,cs=x.c∧SlAt w.heap.size w u8L 1 x.data∧x.data.l.length≤N:=by
 obtain ⟨hl,hf⟩:=rdbU_struct (fs:=Tryz.prog.fieldsOf 46) (by kernel_rfl) h
 obtain ⟨a,ha⟩:=rdb_u32 (cs:=(cs.drop 0).take 1) (hf 0 _ rfl).rdb
 obtain ⟨b,hb⟩:=rdb_u32 (cs:=(cs.drop 1).take 1) (hf 1 _ rfl).rdb
 obtain ⟨i,hi⟩:=rdb_hintS (cs:=(cs.drop 2).take 16) (hf 2 _ rfl).rdb
 have h9:RdbU N enc Tryz.prog w 34 ((cs.drop 18).take 1):=hf 3 _ rfl
 obtain ⟨p,hp,hat⟩:=rdb_bytes h9.rdb
 have h3:cs.drop 19= []:=List.drop_eq_nil_of_le (by rw [hl];exact Nat.le_of_eq (by kernel_rfl))
 have h1:=drop_split cs 0 1
 rw [drop_split cs (0+1) 1,drop_split cs (0+1+1) 16,drop_split cs (0+1+1+16) 1,ha,hb,hi,hp,h3,List.drop_zero] at h1
 rw [hp] at h9
 exact ⟨⟨⟨a,b⟩,i,p⟩,h1,hat,rdbU_len Tryz.underlying34 h9⟩
theorem rdbU_blk (h:RdbU N enc Tryz.prog w 51 cs):∃x:Blk,cs=x.c∧SlAt w.heap.size w Id.c 32 x.tx∧x.tx.l.length≤N:=by
 obtain ⟨hl,hf⟩:=rdbU_struct (fs:=Tryz.prog.fieldsOf 51) (by kernel_rfl) h
 obtain ⟨a,ha⟩:=rdb_id (cs:=(cs.drop 0).take 32) (hf 0 _ rfl).rdb
 obtain ⟨b,hb⟩:=rdb_id (cs:=(cs.drop 32).take 32) (hf 1 _ rfl).rdb
 have h9:RdbU N enc Tryz.prog w 49 ((cs.drop 64).take 1):=hf 2 _ rfl
 obtain ⟨s,hs,hat⟩:=rdb_ids h9.rdb
 have h3:cs.drop 65= []:=List.drop_eq_nil_of_le (by rw [hl];exact Nat.le_of_eq (by kernel_rfl))
 have h1:=drop_split cs 0 32
 rw [drop_split cs (0+32) 32,drop_split cs (0+32+32) 1,ha,hb,hs,h3,List.drop_zero] at h1
 rw [hs] at h9
 exact ⟨⟨a,b,s⟩,h1,hat,rdbU_len Tryz.underlying49 h9⟩
theorem rdb_cfg (h:Rdb enc Tryz.prog w 23 cs):∃x:Cfg,cs=x.c∧(∀y∈ [x.dep,x.stp,x.kep,x.ses,x.cap,x.com], -9223372036854775808≤y∧y≤9223372036854775807):=by
 obtain ⟨hl,hf⟩:=rdb_struct (fs:=Tryz.prog.fieldsOf 23) (by kernel_rfl) h
 obtain ⟨a,ha,ha'⟩:=rdb_i64 (cs:=(cs.drop 0).take 1) (hf 0 _ rfl)
 obtain ⟨b,hb,hb'⟩:=rdb_i64 (cs:=(cs.drop 1).take 1) (hf 1 _ rfl)
 obtain ⟨c,hc,hc'⟩:=rdb_i64 (cs:=(cs.drop 2).take 1) (hf 2 _ rfl)
 obtain ⟨d,hd,hd'⟩:=rdb_i64 (cs:=(cs.drop 3).take 1) (hf 3 _ rfl)
 obtain ⟨e,he,he'⟩:=rdb_i64 (cs:=(cs.drop 4).take 1) (hf 4 _ rfl)
 obtain ⟨f,hff,hf'⟩:=rdb_i64 (cs:=(cs.drop 5).take 1) (hf 5 _ rfl)
 have h3:cs.drop 6= []:=List.drop_eq_nil_of_le (by rw [hl];exact Nat.le_of_eq (by kernel_rfl))
 have h1:=drop_split cs 0 1
 rw [drop_split cs (0+1) 1,drop_split cs (0+1+1) 1,drop_split cs (0+1+1+1) 1,drop_split cs (0+1+1+1+1) 1,drop_split cs (0+1+1+1+1+1) 1,ha,hb,hc,hd,he,hff,h3,List.drop_zero] at h1
 refine ⟨⟨a,b,c,d,e,f⟩,h1,fun y hy=>?_⟩
 simp only [List.mem_cons,List.not_mem_nil,or_false] at hy
 rcases hy with rfl|rfl|rfl|rfl|rfl|rfl<;>assumption
theorem rdbU_sta (h:RdbU N enc Tryz.prog w 31 cs):∃x:Sta,cs=x.c∧StaAt w.heap.size w x∧StaB N x∧(∀y∈ [x.cfg.dep,x.cfg.stp,x.cfg.kep,x.cfg.ses,x.cfg.cap,x.cfg.com,x.halt], -9223372036854775808≤y∧y≤9223372036854775807)∧∀j∈x.jobs.l, -9223372036854775808≤j.live∧j.live≤9223372036854775807:=by
 obtain ⟨hl,hf⟩:=rdbU_struct (fs:=Tryz.prog.fieldsOf 31) (by kernel_rfl) h
 obtain ⟨c,hc,hc'⟩:=rdb_cfg (cs:=(cs.drop 0).take 6) (hf 0 _ rfl).rdb
 obtain ⟨ht,hht⟩:=rdb_u32 (cs:=(cs.drop 6).take 1) (hf 1 _ rfl).rdb
 obtain ⟨ha,hha,hha'⟩:=rdb_int Tryz.underlying25 (cs:=(cs.drop 7).take 1) (hf 2 _ rfl).rdb
 obtain ⟨ne,hne⟩:=rdb_u32 (cs:=(cs.drop 8).take 1) (hf 3 _ rfl).rdb
 obtain ⟨wi,hwi,w1,w2,w3⟩:=rdbU_slice (cs:=(cs.drop 9).take 1) (ec:=Blk.c) (sz:=65) (Q:=fun x=>SlAt w.heap.size w Id.c 32 x.tx∧x.tx.l.length≤N) Tryz.underlying26 (by kernel_rfl) (by omega) (fun c _ hc=>rdbU_blk hc) (hf 4 _ rfl)
 obtain ⟨se,hse,s1,s2,_⟩:=rdbU_slice (cs:=(cs.drop 10).take 1) (ec:=Sess.c) (sz:=4) (Q:=fun _=>True) Tryz.underlying27 (by kernel_rfl) (by omega) (fun c _ hc=>(rdb_sess hc.rdb).imp fun x hx=>⟨hx,trivial⟩) (hf 5 _ rfl)
 obtain ⟨bl,hbl,b1,b2,b3⟩:=rdbU_slice (cs:=(cs.drop 11).take 1) (ec:=Blob.c) (sz:=19) (Q:=fun x=>SlAt w.heap.size w u8L 1 x.data∧x.data.l.length≤N) Tryz.underlying28 (by kernel_rfl) (by omega) (fun c _ hc=>rdbU_blob hc) (hf 6 _ rfl)
 obtain ⟨jo,hjo,j1,j2,j3⟩:=rdbU_slice (cs:=(cs.drop 12).take 1) (ec:=Job.c) (sz:=38) (Q:=fun x=>PayAt w.heap.size w x.pay∧ -9223372036854775808≤x.live∧x.live≤9223372036854775807) Tryz.underlying29 (by kernel_rfl) (by omega) (fun c _ hc=>rdb_job hc.rdb) (hf 7 _ rfl)
 have h3:cs.drop 13= []:=List.drop_eq_nil_of_le (by rw [hl];exact Nat.le_of_eq (by kernel_rfl))
 have h1:=drop_split cs 0 6
 rw [drop_split cs (0+6) 1,drop_split cs (0+6+1) 1,drop_split cs (0+6+1+1) 1,drop_split cs (0+6+1+1+1) 1,drop_split cs (0+6+1+1+1+1) 1,drop_split cs (0+6+1+1+1+1+1) 1,drop_split cs (0+6+1+1+1+1+1+1) 1,hc,hht,hha,hne,hwi,hse,hbl,hjo,h3,List.drop_zero] at h1
 refine ⟨⟨c,ht,ha,ne,wi,se,bl,jo⟩,h1,⟨w1,fun b hb=>(w3 b hb).1,s1,⟨b1,fun b hb=>(b3 b hb).1⟩,j1,fun j hj=>(j3 j hj).1⟩,⟨w2,fun b hb=>(w3 b hb).2,s2,b2,fun b hb=>(b3 b hb).2,j2⟩,fun y hy=>?_,fun j hj=>(j3 j hj).2⟩
 rcases List.mem_append.1 (show y∈ [c.dep,c.stp,c.kep,c.ses,c.cap,c.com]++ [ha] from hy) with hy|hy
 ·exact hc' y hy
 ·simp at hy
  subst hy
  exact lit_i64 hha'
end
end Go.Proofs.YtpbapnlnheahnaaGreatDoor
