/- MImprintBytes16: parts of the proof of ImprintBytes: HintG, PaySame, PayRs, PayCopy, PayIds, Job1, StaP, CodS. No condition of their own. -/
import Derived.Test.YtpbapnlnheahnaaGreatDoorMImprintBytes14
import Derived.Test.YtpbapnlnheahnaaGreatDoorMImprintBytes7
import Derived.Test.YtpbapnlnheahnaaGreatDoorMImprintBytes9
import Derived.Test.YtpbapnlnheahnaaGreatDoorMImprintBytes15
import Derived.Test.YtpbapnlnheahnaaGreatDoorMImprintBytes8
import Derived.Test.YtpbapnlnheahnaaGreatDoorMImprintBytes13
set_option linter.unusedSimpArgs false
set_option linter.unusedVariables false
namespace Go.Proofs.YtpbapnlnheahnaaGreatDoor
open Go.RowKit
set_option maxRecDepth 100000
set_option maxHeartbeats 2000000
section
variable {S : Nat → Prop} {w0 w w' : World} {rs : List Res} {j : Nat}
theorem ldn_heap {b n:Nat} {t:TypeId} {cs:List Value} {k:Value→Prop} (h:w.heap[b]? =some (.cells cs.toArray t)) (hl:cs.length=n) (hk:k (.agg cs.toArray)):LdN w ⟨b,0,none⟩ n k:=
 ldn_of hl (fun i v hi=>by rw [add_plain];exact cell_of_heap h (by simpa using hi)) hk
end
section
variable {P : Program} {w : World} {κ ν : Type} [DecidableEq κ] {enc : κ → Value} {val : ν → Value} {k e t : TypeId} {b : Nat} {l : List (κ × ν)} {ρ : Operand → Value} {o : Oper}
theorem rd_lookM {g:Value→Prop} {m x:Operand} {ok:Bool} (hop:o.op=Op.lookup t m x ok) (hM:MapAt enc val w b l) (hm:ρ m= .map (some b)) (KE:KEnc P k enc) (ht:P.underlying t=some (.map k e)) {z:ν} (hz:zeroOf P e=some (val z)) (c:κ) (hx:ρ x=enc c) {v:ν} (hv:(l.lookup c).getD z=v)
  (hk:g (if ok then .tuple #[val v, .bool (l.lookup c).isSome] else val v)):Rd P ρ o w g:=by
 subst hv
 refine ⟨_,fun w' hc=>?_,hk⟩
 obtain ⟨h1,h2⟩:=(hM.keep0 hc).look KE ht (fun W=>run_zeroOf hz) c
 cases ok
 ·simp [execOp,hop,hm,hx,h2]
 ·simp [execOp,hop,hm,hx,h1]
theorem gen_lookM {g:Value→World→Prop} {m x:Operand} {ok:Bool} (hop:o.op=Op.lookup t m x ok) (hM:MapAt enc val w b l) (hm:ρ m= .map (some b)) (KE:KEnc P k enc) (ht:P.underlying t=some (.map k e)) {z:ν} (hz:zeroOf P e=some (val z)) (c:κ) (hx:ρ x=enc c) {v:ν} (hv:(l.lookup c).getD z=v)
  (hk:g (if ok then .tuple #[val v, .bool (l.lookup c).isSome] else val v) w):Gen P ρ o w g:=by
 obtain ⟨v',h1,h2⟩:=rd_lookM (g:=fun v=>g v w) hop hM hm KE ht hz c hx hv hk
 exact gen_v (h1 w (Chg.refl _ _)) h2
theorem rd_cutl {α:Type} {g:Value→Prop} {sz bytes:Nat} {x lo:Operand} (hop:o.op= .slice t x (some lo) none none) (hE:ElT P t e sz bytes) (s:Sl α) (hx:ρ x=s.v) (hc:s.l.length≤s.c) {k:IntKind} {m:Int} (hl:ρ lo= .int k m) {l:Nat} (hm:m=l) (h2:l≤s.l.length) (hk:g (s.cut sz l s.l.length).v):Rd P ρ o w g:=by
 subst hm
 obtain ⟨ht,i,z,hi',_,hs,_⟩:=hE
 exact ⟨_,fun w' _=>run_cut hop ht ⟨i,hi',hs⟩ s hx hc (l:=l) (h:=s.l.length) ⟨k,hl⟩ rfl h2 (Nat.le_refl _),hk⟩
theorem gen_mkf {fn:Fn} {a b:Array Operand} {g:Value→World→Prop} (hop:o.op= .makeFunc fn a b) {v:Value} (hv: .func fn (a.toList.map ρ).toArray (b.toList.map ρ).toArray=v) (h:g v w):Gen P ρ o w g:=by
 subst hv
 have e1:∀a:Array Operand,a.map ρ=(a.toList.map ρ).toArray:=fun a=>by apply Array.ext';simp
 rw [←e1,←e1] at h
 exact gen_v (by simp [execOp,hop,Instr.makeFunc]) h
end
theorem hg_lookup {κ ν:Type} [DecidableEq κ] {k:κ} {v:ν}:∀{l:List (κ×ν)},l.lookup k=some v→(k,v)∈l
 | [],h=>by simp at h
 |p::l,h=>by
  rw [List.lookup_cons] at h
  by_cases hk:k=p.1
  ·have hb:(k==p.1)=true:=by simpa using hk
   rw [hb] at h
   cases h
   subst hk
   simp
  ·have hb:(k==p.1)=false:=by simpa using hk
   rw [hb] at h
   exact List.mem_cons_of_mem _ (hg_lookup h)
theorem eq_hint (x y:Hint):EqIs Tryz.prog 44 x.v y.v (decide (x=y)):=fun w=>by
 have h:=run_equalIn_bytes (P:=Tryz.prog) w 9998 44 5 16 (by kernel_rfl) Tryz.underlying5 (fun w=>by rfl) x.toList y.toList (by simp) (by simp)
 rw [Hint.cells,Hint.cells] at h
 have e:(x.toList==y.toList)=decide (x=y):=by
  rw [Bool.eq_iff_iff]
  simp
 rw [e] at h
 exact h
theorem hint_law:Maps.Keyed Tryz.prog 44:=Maps.Keyed.of_law (deep_law (m:=3) (by omega) (by kernel_rfl) (by kernel_rfl) (by kernel_rfl))
theorem Hint.inj {x y:Hint} (h:x.v=y.v):x=y:=by
 have h1:x.c.toArray=y.c.toArray:=by injection h
 rw [←Hint.cells,←Hint.cells] at h1
 have h2:x.toList.map Extern.Stop.cell=y.toList.map Extern.Stop.cell:=by simpa using h1
 have h3:x.toList=y.toList:=by
  have hinj:∀a b:UInt8,Extern.Stop.cell a=Extern.Stop.cell b→a=b:=fun a b hh=>by
   simp [Extern.Stop.cell] at hh
   exact UInt8.toNat_inj.1 (by omega)
  exact List.map_inj_right hinj |>.1 h2
 exact Vector.toList_inj.1 h3
theorem hintK:KEnc Tryz.prog 44 Hint.v where
 law:=hint_law
 reads x:=by
  obtain ⟨L,hL⟩:=keyLits_u8s (P:=Tryz.prog) (t:=44) (e:=5) (n:=16) (d:=Tryz.prog.types.size - 1) (by kernel_rfl) Tryz.underlying5 (by kernel_rfl) (by kernel_rfl) x.toList (by simp)
  have h1:x.v.cells.toList=x.toList.map u8:=by
   have:=congrArg Array.toList (Hint.cells x)
   rw [List.toList_toArray,List.toList_toArray] at this
   exact this.symm
  have h2:Tryz.prog.types.size - 1+2=Tryz.prog.types.size+1:=by kernel_rfl
  rw [h2] at hL
  refine ⟨.string (keyBytes L),?_⟩
  have ht:Tryz.prog.underlying 44=some (.array 16 5):=by kernel_rfl
  have hk:(Tryz.prog.keyType 44 && x.v.formed Tryz.prog 44)=true:=by kernel_rfl
  unfold keyOf
  rw [ht]
  simp only
  rw [if_pos hk,h1,hL]
  rfl
 inj h:=Hint.inj h
theorem el_key:ElT Tryz.prog 218 54 2 8:=elt_of (z:= .agg #[.int .u32 0, .int .u32 0]) Tryz.underlying218 (by kernel_rfl) rfl (by omega)
theorem key_one {l:List Key}:∀x∈l,∀u∈Key.c x,u.oneCell'=true:=fun x _ u hu=>by
 rcases List.mem_cons.1 hu with rfl|hu
 ·rfl
 rcases List.mem_cons.1 hu with rfl|hu
 ·rfl
 ·cases hu
section
variable {κ ν : Type} [DecidableEq κ]
def idx (l:List (κ×Sl ν)) (k:κ):Sl ν:=(l.lookup k).getD Sl.nil
variable {kv : κ → Value} {vc : ν → List Value} {it et : TypeId} {sz : Nat} {b m : Nat} {n : Int} {l : List (κ × Sl ν)} {w w' : World}
abbrev irow (et:TypeId) (sz:Nat) (vc:ν→List Value) (p:κ×Sl ν):Res:=rowR et sz vc p.2
abbrev idxRs (it et:TypeId) (sz:Nat) (kv:κ→Value) (vc:ν→List Value) (b m:Nat) (l:List (κ×Sl ν)) (n:Int):List Res:=cel b it #[.map (some m),i64 n]::mapR kv Sl.v m l::l.map (irow et sz vc)
structure IdxAt (kv:κ→Value) (vc:ν→List Value) (sz:Nat) (w:World) (b m:Nat) (l:List (κ×Sl ν)) (n:Int):Prop where
 c0:w.cell? ⟨b,0,none⟩=some (.map (some m))
 c1:w.cell? ⟨b,1,none⟩=some (i64 n)
 map:MapAt kv Sl.v w m l
 row:∀p∈l,SlAt w.heap.size w vc sz p.2
omit [DecidableEq κ] in
theorem idxAt (h:(star (idxRs it et sz kv vc b m l n)).ok w):IdxAt kv vc sz w b m l n:=by
 have hp:=Hp.open h
 exact ⟨cell_of_heap (hp.cel_get (j:=0) rfl) rfl,cell_of_heap (hp.cel_get (j:=0) rfl) rfl,mapR_ok.1 (hp.get (j:=1) rfl),fun p hm=>rowR_at (e:=et) (hp.ok (irow et sz vc p) (List.mem_cons_of_mem _ (List.mem_cons_of_mem _ (List.mem_map_of_mem hm))))⟩
omit [DecidableEq κ] in
theorem IdxAt.keep0 (h:IdxAt kv vc sz w b m l n) (hc:Chg N0 w w'):IdxAt kv vc sz w' b m l n:=
 ⟨hc.cell0 h.c0,hc.cell0 h.c1,h.map.keep0 hc,fun p hm=>((h.row p hm).keep hc fun _ hh=>hh.elim).more hc.size⟩
theorem IdxAt.idx (h:IdxAt kv vc sz w b m l n) (k:κ):SlAt w.heap.size w vc sz (idx l k):=by
 unfold Go.Proofs.YtpbapnlnheahnaaGreatDoor.idx
 cases hl:l.lookup k with
 |none=>exact .none_
 |some x=>exact h.row _ (hg_lookup hl)
theorem idx_mput (l:List (κ×Sl ν)) (k:κ) (s:Sl ν) (x:κ):idx (mput l k s) x=if x=k then s else idx l x:=by
 unfold idx
 rw [lookup_mput]
 by_cases h:x=k
 ·rw [if_pos h,if_pos h];rfl
 ·rw [if_neg h,if_neg h]
theorem lookup_mdel (l:List (κ×Sl ν)) (k x:κ):(mdel l k).lookup x=if x=k then none else l.lookup x:=by
 unfold mdel
 induction l with
 |nil=>simp
 |cons p l ih=>
  by_cases hp:p.1=k
  ·rw [List.filter_cons_of_neg (by simpa using hp),ih,List.lookup_cons]
   by_cases hx:x=k
   ·rw [if_pos hx,if_pos hx]
   ·rw [if_neg hx,if_neg hx]
    have:(x==p.1)=false:=by simp only [beq_eq_false_iff_ne,ne_eq];exact fun e=>hx (e.trans hp)
    rw [this]
  ·rw [List.filter_cons_of_pos (by simpa using hp),List.lookup_cons,List.lookup_cons,ih]
   by_cases hx:x=k
   ·rw [if_pos hx,if_pos hx]
    have:(x==p.1)=false:=by simp only [beq_eq_false_iff_ne,ne_eq];exact fun e=>hp (e.symm.trans hx)
    rw [this]
   ·rw [if_neg hx,if_neg hx]
theorem idx_mdel (l:List (κ×Sl ν)) (k x:κ):idx (mdel l k) x=if x=k then Sl.nil else idx l x:=by
 unfold idx
 rw [lookup_mdel]
 by_cases h:x=k
 ·rw [if_pos h,if_pos h];rfl
 ·rw [if_neg h,if_neg h]
theorem rows_take {β:Type} (f:κ×Sl ν→β) (k:κ):∀{l:List (κ×Sl ν)},(l.map (·.1)).Nodup→∃rest,((∃s,l.lookup k=some s∧(l.map f).Perm (f (k,s)::rest))∨(l.lookup k=none∧l.map f=rest))∧(∀s',(f (k,s')::rest).Perm ((mput l k s').map f))∧rest=(mdel l k).map f
 | [],_=>⟨[], .inr ⟨by simp,by simp⟩,fun s'=>by simp [mput],by simp [mdel]⟩
 |p::l,hn=>by
  rw [List.map_cons,List.nodup_cons] at hn
  by_cases hk:p.1=k
  ·subst hk
   have hno:∀q∈l,q.1≠p.1:=fun q hq e=>hn.1 (e▸List.mem_map_of_mem (f:=fun x:κ×Sl ν=>x.1) hq)
   have hdel:mdel (p::l) p.1=l:=by
    unfold mdel
    rw [List.filter_cons_of_neg (by simp)]
    exact List.filter_eq_self.2 (by simpa using hno)
   refine ⟨l.map f, .inl ⟨p.2,by rw [List.lookup_cons,beq_self_eq_true], .refl _⟩,fun s'=>?_,by rw [hdel]⟩
   have h1:mput (p::l) p.1 s'=(p.1,s')::l:=by
    unfold mput
    rw [if_pos (by simp)]
    have h2:∀q∈l,(if q.1=p.1 then (p.1,s') else q)=q:=fun q hq=>if_neg (hno q hq)
    rw [List.map_cons,if_pos rfl,List.map_congr_left h2,List.map_id']
   rw [h1]
   simp
  ·obtain ⟨rest,h1,h2,h3⟩:=rows_take f k hn.2
   have hlk:(p::l).lookup k=l.lookup k:=by
    rw [List.lookup_cons]
    have:(k==p.1)=false:=by simp only [beq_eq_false_iff_ne,ne_eq];exact fun e=>hk e.symm
    rw [this]
   refine ⟨f p::rest,?_,fun s'=>?_,?_⟩
   ·rw [hlk]
    rcases h1 with ⟨s,h4,h5⟩|⟨h4,h5⟩
    ·exact .inl ⟨s,h4,(h5.cons _).trans (.swap ..)⟩
    ·exact .inr ⟨h4,by rw [List.map_cons,h5]⟩
   ·have h4:mput (p::l) k s'=p::mput l k s':=by
     unfold mput
     by_cases hkl:k∈l.map (·.1)
     ·rw [if_pos hkl,if_pos (by rw [List.map_cons];exact List.mem_cons_of_mem _ hkl),List.map_cons,if_neg hk]
     ·rw [if_neg hkl,if_neg (by rw [List.map_cons,List.mem_cons];exact fun h=>h.elim (fun e=>hk e.symm) hkl)]
      rfl
    rw [h4,List.map_cons]
    exact (List.Perm.swap ..).trans ((h2 s').cons _)
   ·have h4:mdel (p::l) k=p::mdel l k:=by
     unfold mdel
     rw [List.filter_cons_of_pos (by simpa using hk)]
    rw [h4,List.map_cons,h3]
theorem idx_out {D:Nat→Prop} {w0:World} {c:List Res} (k:κ) (h:Hp D w0 w (c++(cel b it #[.map (some m),i64 n]::mapR kv Sl.v m l::l.map (irow et sz vc)))):
  ∃rest,Hp D w0 w (rowR et sz vc (idx l k)::(c++(cel b it #[.map (some m),i64 n]::mapR kv Sl.v m l::rest)))∧(∀s',(irow et sz vc (k,s')::rest).Perm ((mput l k s').map (irow et sz vc)))∧rest=(mdel l k).map (irow et sz vc):=by
 have hM:MapAt kv Sl.v w m l:=mapR_ok.1 (h.ok _ (by simp))
 obtain ⟨rest,h1,h2,h3⟩:=rows_take (irow et sz vc) k hM.nodup
 refine ⟨rest,?_,h2,h3⟩
 rcases h1 with ⟨s,h4,h5⟩|⟨h4,h5⟩
 ·have e:idx l k=s:=by unfold idx;rw [h4];rfl
  rw [e]
  refine h.perm ?_
  have h6:(c++(cel b it #[.map (some m),i64 n]::mapR kv Sl.v m l::l.map (irow et sz vc))).Perm (c++(cel b it #[.map (some m),i64 n]::mapR kv Sl.v m l::(irow et sz vc (k,s)::rest))):=((h5.cons _).cons _).append_left c
  refine h6.trans ?_
  have h7:=List.perm_middle (l₁:=c++ [cel b it #[.map (some m),i64 n],mapR kv Sl.v m l]) (l₂:=rest) (a:=irow et sz vc (k,s))
  simpa using h7
 ·have e:idx l k=Sl.nil:=by unfold idx;rw [h4];rfl
  rw [e,←h5]
  exact h.nilRow et sz vc
omit [DecidableEq κ] in
theorem idx_back {D:Nat→Prop} {w0:World} {k:κ} {s':Sl ν} {C M:Res} {c rest:List Res} {l':List (κ×Sl ν)} (h:Hp D w0 w (irow et sz vc (k,s')::(c++(C::M::rest)))) (hperm:(irow et sz vc (k,s')::rest).Perm (l'.map (irow et sz vc))):Hp D w0 w (c++(C::M::l'.map (irow et sz vc))):=by
 refine h.perm ?_
 have h7:=(List.perm_middle (l₁:=c++ [C,M]) (l₂:=rest) (a:=irow et sz vc (k,s'))).symm
 have h8:=hperm.append_left (c++ [C,M])
 have h9:=h7.trans h8
 simpa using h9
theorem idxOf_at {α:Type} [BEq α] [LawfulBEq α] {x:α}:∀{l:List α} {i:Nat},l[i]? =some x→(∀y∈l.take i,y≠x)→l.idxOf x=i
 | [],i,h,_=>by simp at h
 |y::l,0,h,_=>by
  simp at h
  subst h
  simp
 |y::l,i+1,h,hn=>by
  have hy:y≠x:=hn y (by simp)
  have h1:=idxOf_at (l:=l) (i:=i) (by simpa using h) fun z hz=>hn z (by simp [hz])
  rw [List.idxOf_cons,h1]
  have:(y==x)=false:=by simpa using hy
  rw [this]
  rfl
theorem erase_one {α:Type} [BEq α] [LawfulBEq α] {v:α} {l:List α} (hv:v∈l) (hl:l.length=1):l.erase v= []:=by
 match l,hl with
 | [x],_=>
  simp at hv
  subst hv
  simp
theorem erase_cut {α:Type} [BEq α] [LawfulBEq α] {sz a:Nat} {v:α} {s:Sl α} (ha:s.l.idxOf v=a):(s.cut sz 0 a).l++(s.cut sz (a+1) s.l.length).l=s.l.erase v:=by
 show (s.l.take a).drop 0++(s.l.take s.l.length).drop (a+1)=_
 rw [List.drop_zero,List.take_length,List.erase_eq_eraseIdx_of_idxOf ha,List.eraseIdx_eq_take_drop_succ]
theorem iter_at {S T:Nat→Prop} {w0 w:World} {rs1 rs2:List Res} (h:Hp S w0 w (rs1++rs2)) (hT:∀b,T b→b < w0.heap.size∧¬S b):∀b,((∃r∈rs1,r.dom b)∨T b)→b < w.heap.size∧∀r∈rs2,¬r.dom b:=by
 rintro b (⟨r,hr,hb⟩|hb)
 ·exact ⟨r.lt w (h.ok r (List.mem_append_left _ hr)) b hb,fun r' hr' hb'=>(List.pairwise_append.1 h.sep).2.2 r hr r' hr' b hb hb'⟩
 ·obtain ⟨h1,h2⟩:=hT b hb
  refine ⟨Nat.lt_of_lt_of_le h1 h.chg.size,fun r' hr' hb'=>?_⟩
  rcases h.own r' (List.mem_append_right _ hr') b hb' with h3|h3
  ·exact h2 h3
  ·omega
end
abbrev txR (t:Tier):Res:=rowR 5 1 u8L t.tx
abbrev payRs (r:Payload):List Res:=rowR 88 2 Tier.c r::r.l.map txR
theorem tierL_one {l:List Tier}:∀x∈l,∀u∈Tier.c x,u.oneCell'=true:=fun x _ u hu=>by
 simp only [Tier.c,List.mem_cons,List.not_mem_nil,or_false] at hu
 rcases hu with rfl|rfl<;>rfl
theorem payRs_at {S:Nat→Prop} {w0 w:World} {rs:List Res} {r:Payload} (h:Hp S w0 w rs) (hs:(payRs r).Sublist rs):PayAt w.heap.size w r:=
 ⟨rowR_at (h.ok _ (hs.subset (List.mem_cons_self ..))),fun t ht=>rowR_at (h.ok _ (hs.subset (List.mem_cons_of_mem _ (List.mem_map_of_mem ht))))⟩
theorem payNil_made {w0 w:World} (hc:Chg N0 w0 w):Made (star (payRs Sl.nil)) w0 w:=by
 have h:=(Hp.start (S:=N0) w0).call0 hc
 have h1:=h.new (Chg.refl _ _) (r:=rowR 88 2 Tier.c Sl.nil) (rowR_ok.2 ⟨World.ownsRow_nil w 0 _ _,by simp [Sl.nil]⟩) fun b hb=>by have h1:=rowR_dom.1 hb;cases h1
 exact h1.made (.refl _)
theorem Hp.split1 {S:Nat→Prop} {w0 w:World} {a:Res} {R rs:List Res} (h:Hp S w0 w (star (a::R)::rs)):Hp S w0 w (a::star R::rs):=by
 have h1:Hp S w0 w (a::(R++rs)):=h.unfold
 have h2:=(h1.perm (List.perm_middle (l₁:=R) (l₂:=rs) (a:=a)).symm).fold R.length
 rw [List.take_left,List.drop_left] at h2
 exact h2.perm (.swap ..)
theorem copyp_any {B:Nat} {w0:World} {p:Payload} (h:PayAt B w0 p) (hBw:B≤w0.heap.size) (hf:fewP p=true):Calls Tryz.prog 177 #[p.pv] w0 fun e w'=>∃r:Payload,r.l.map tk=p.l.map tk∧e= .returned r.pv∧Made (star (payRs r)) w0 w':=by
 obtain ⟨hf1,hf2⟩:=fewP_at hf
 have hp:=Hp.start (S:=N0) w0
 have hB:∀b,N0 b→B≤b:=fun _ hh=>hh.elim
 have u1:=Tryz.underlying55
 refine calls_x (args:= [_]) tabOk Tryz.func177 Tryz.ntmps177 Tryz.results177 rfl (Nat.le_of_ble_eq_true rfl) ?_
 ((conv=>whnf);repeat' ((first|((with_reducible apply ld_id);apply ld_hs hp;(focus repeat' constructor);exact rfl)|((with_reducible apply al_id);refine al_cel hp ?_;clear hp;intro bb w hp)|((with_reducible apply gen_id);apply gen_len;exact rfl;exact rfl;assumption))<;>(conv=>whnf)))
 obtain ⟨b3,hb3⟩:∃b,b=bb:=⟨_,rfl⟩
 subst hb3
 obtain ⟨b2,hb2⟩:∃b,b=bb:=⟨_,rfl⟩
 subst hb2
 have hp0:Hp N0 w0 w (cel b3 57 #[(Sl.nil:Payload).v]::cel b2 57 #[(Sl.nil:Payload).v]::payRs Sl.nil):=by
  have h1:=hp.new (Chg.refl _ _) (r:=rowR 88 2 Tier.c Sl.nil) (rowR_ok.2 ⟨World.ownsRow_nil w 0 _ _,by simp [Sl.nil]⟩) fun b hb=>by have h1:=rowR_dom.1 hb;cases h1
  exact (h1.sub (rs':= [_,_,_]) (List.Sublist.cons_cons _ (List.Sublist.cons_cons _ (List.Sublist.cons_cons _ (List.nil_sublist _))))).perm (List.perm_append_singleton _ [_,_]).symm
 clear hp
 refine lp_inv (α:=Nat×Payload) (fun a=> [(2,ptr b2),(3,ptr b3),(7,p.v),(8,i64 p.l.length),(9,i64 a.1)]) (fun a w=>a.1≤p.l.length∧a.2.l.map tk=(p.l.take a.1).map tk∧Hp N0 w0 w (cel b3 57 #[a.2.v]::cel b2 57 #[(Sl.nil:Payload).v]::payRs a.2)) (fun a=>p.l.length - a.1) (0,Sl.nil) (by (repeat' (first|exact trivial|(refine ⟨rfl,?_⟩)))) ⟨by omega,by simp [Sl.nil],hp0⟩ ?_
 clear hp0
 rintro ⟨i,r⟩ e0 w ⟨hi,hr,hp⟩
 dsimp only at hi hr hp ⊢
 have hrl:r.l.length=i:=by
  have:=congrArg List.length hr
  rw [List.length_map,List.length_map,List.length_take] at this
  omega
 rcases Nat.lt_or_ge i p.l.length with hlt|hge
 ·obtain ⟨b,o,x,hA,hb,hrow,hxx⟩:=h.row.has hlt
  have hmem:=List.mem_of_getElem? hxx
  have hx200:=hf1 x hmem
  have hx8:SlAt w.heap.size w u8L 1 x.tx:=((h.tx x hmem).keep hp.chg hB).more (Nat.le_trans hBw hp.chg.size)
  ((conv=>whnf);repeat' ((first|((with_reducible apply br_id);(with_reducible refine br_dec (fun hx=>?_) (fun hx=>?_))<;>(try (exfalso;first|omega|contradiction)))|((with_reducible apply ar_id);refine ar_i64 (by omega) ?_)|((with_reducible apply cn_id);first|refine cn rfl ?_|refine cn ‹_› ?_)|((with_reducible apply ld_id);apply ld_hs hp;(focus repeat' constructor);exact rfl)|((with_reducible apply ldn_id);(refine ldn_rowx hp hB ‹_› ‹_› _ rfl ‹_› rfl ?_))|((with_reducible apply al_id);refine al_cel hp ?_;clear hp;intro bb w hp)|((with_reducible apply st_id);apply sta_hs hp;(focus repeat' constructor);exact rfl;exact rfl;clear hp;intro w hp;(try dsimp only [List.set] at hp))|((with_reducible apply gen_id);first|(refine gen_ixs rfl rfl ‹_› rfl rfl (by omega) ?_)|((refine gen_app0 rfl hp el_u8 rfl x.tx rfl (((h.tx x hmem).keep hp.chg hB).more (Nat.le_trans hBw hp.chg.size)) (fun _ _=>rfl) u8_one (by omega) (by simp only [maxLen];omega) ?_);clear hp;intro A1 c1 w hcc hp)|((refine gen_bs rfl hp el_tier Tier.c [⟨x.fee,⟨A1,c1,x.tx.l⟩⟩] [Tier.v ⟨x.fee,⟨A1,c1,x.tx.l⟩⟩] rfl rfl rfl (fun _ hh=>by simp at hh;subst hh;rfl) (by omega) ?_);clear hp;intro br w hp)|((refine gen_app (s:=r) rfl hp 5 rfl el_tier rfl ⟨some ⟨br,0,none⟩,1, [⟨x.fee,⟨A1,c1,x.tx.l⟩⟩]⟩ rfl (hp.row (j:=0) rfl) (fun _ _=>rfl) tierL_one (by simp only [List.length_cons,List.length_nil];omega) (by simp only [maxLen,List.length_cons,List.length_nil];omega) ?_);clear hp;intro A2 c2 w hp;dsimp only [List.set] at hp)|(apply gen_build;exact rfl;exact rfl))|((with_reducible apply dr_id);(refine dr_autot tabOk (by kernel_rfl) (by decide+kernel) ?_);replace hp:=hp.drew))<;>(conv=>whnf)))
  refine lp_next (i+1,⟨A2,c2,r.l++ [⟨x.fee,⟨A1,c1,x.tx.l⟩⟩]⟩) ?_ (by (repeat' (first|exact trivial|(refine ⟨rfl,?_⟩)))) ⟨by show i+1≤_;omega,?_,?_⟩
  ·show p.l.length - (i+1) < p.l.length - i;omega
  ·show (r.l++ [_]).map tk=_
   rw [List.take_add_one,hxx,List.map_append,List.map_append,hr]
   rfl
  ·have h1:=hp.sub (rs':=_::_::_::_::r.l.map txR) (List.Sublist.cons _ (List.Sublist.cons_cons _ (List.Sublist.cons _ (List.Sublist.refl _))))
   have h2:=h1.perm (List.perm_append_singleton _ _).symm
   show Hp N0 w0 w (_::_::_::(r.l++ [_]).map txR)
   rw [List.map_append]
   exact h2
 ·((conv=>whnf);repeat' ((first|((with_reducible apply br_id);(with_reducible refine br_dec (fun hx=>?_) (fun hx=>?_))<;>(try (exfalso;first|omega|contradiction)))|((with_reducible apply cn_id);refine cn rfl ?_)|((with_reducible apply ldn_id);apply lda_hs hp;(focus repeat' constructor);exact rfl)|((with_reducible apply st_id);apply sta_hs hp;(focus repeat' constructor);exact rfl;exact rfl;clear hp;intro w hp;(try dsimp only [List.set] at hp)))<;>(conv=>whnf)))
  rw [List.take_of_length_le hge] at hr
  refine ps_val (v':=r.pv) rfl ⟨r,hr,rfl,hp.made (List.Sublist.cons _ (List.Sublist.cons _ (List.Sublist.refl _)))⟩
abbrev idsP (p:Payload):List Id:=p.l.map fun t=>shaV t.tx.l
theorem ids_any {B:Nat} {w0:World} {p:Payload} (h:PayAt B w0 p) (hBw:B≤w0.heap.size) (hf:fewP p=true):Calls Tryz.prog 167 #[p.pv] w0 fun e w'=>∃r:Sl Id,r.l=idsP p∧e= .returned r.v∧Made (rowR 48 32 Id.c r) w0 w':=by
 obtain ⟨hf1,hf2⟩:=fewP_at hf
 have hp:=Hp.start (S:=N0) w0
 have hB:∀b,N0 b→B≤b:=fun _ hh=>hh.elim
 have u1:=Tryz.underlying55
 refine calls_x (args:= [_]) tabOk Tryz.func167 Tryz.ntmps167 Tryz.results167 rfl (Nat.le_of_ble_eq_true rfl) ?_
 ((conv=>whnf);repeat' ((first|((with_reducible apply ld_id);apply ld_hs hp;(focus repeat' constructor);exact rfl)|((with_reducible apply al_id);refine al_cel hp ?_;clear hp;intro bb w hp)|((with_reducible apply gen_id);apply gen_len;exact rfl;exact rfl;assumption))<;>(conv=>whnf)))
 obtain ⟨b1,hb1⟩:∃b1,b1=bb:=⟨_,rfl⟩
 subst hb1
 have hp0:Hp N0 w0 w [rowR 48 32 Id.c Sl.nil]:=(hp.new (Chg.refl _ _) (r:=rowR 48 32 Id.c Sl.nil) (rowR_ok.2 ⟨World.ownsRow_nil w 0 _ _,by simp [Sl.nil]⟩) fun b hb=>by have h1:=rowR_dom.1 hb;cases h1).sub (List.Sublist.cons_cons _ (List.nil_sublist _))
 clear hp
 refine lp_inv (α:=Nat×Sl Id) (fun a=> [(3,a.2.v),(7,p.v),(8,i64 p.l.length),(9,i64 a.1)]) (fun a w=>a.1≤p.l.length∧a.2.l=(idsP p).take a.1∧Hp N0 w0 w [rowR 48 32 Id.c a.2]) (fun a=>p.l.length - a.1) (0,Sl.nil) (by (repeat' (first|exact trivial|(refine ⟨rfl,?_⟩)))) ⟨by omega,by simp [Sl.nil],hp0⟩ ?_
 clear hp0
 rintro ⟨i,r⟩ e0 w ⟨hi,hr,hp⟩
 dsimp only at hi hr hp ⊢
 rcases Nat.lt_or_ge i p.l.length with hlt|hge
 ·obtain ⟨b,o,x,hA,hb,hrow,hxx⟩:=h.row.has hlt
  have hmem:=List.mem_of_getElem? hxx
  have hrl:r.l.length=i:=by rw [hr,List.length_take,List.length_map];omega
  have hid:(idsP p)[i]? =some (shaV x.tx.l):=by simp [hxx]
  obtain ⟨X,hX⟩:∃X,shaV x.tx.l=X:=⟨_,rfl⟩
  rw [hX] at hid
  ((conv=>whnf);repeat' ((first|((with_reducible apply br_id);(with_reducible refine br_dec (fun hx=>?_) (fun hx=>?_))<;>(try (exfalso;first|omega|contradiction)))|((with_reducible apply cn_id);refine cn rfl ?_)|((with_reducible apply ld_id);apply ld_hs hp;(focus repeat' constructor);exact rfl)|((with_reducible apply ldn_id);(refine ldn_rowx hp hB ‹_› ‹_› _ rfl ‹_› rfl ?_))|((with_reducible apply al_id);refine al_cel hp ?_;clear hp;intro bb w hp)|((with_reducible apply st_id);apply sta_hs hp;(focus repeat' constructor);exact rfl;exact rfl;clear hp;intro w hp;(try dsimp only [List.set] at hp))|((with_reducible apply gen_id);(refine gen_ixs rfl rfl ‹_› rfl rfl (by omega) ?_)))<;>(conv=>whnf)))
  refine cl_of (txid_any ((h.tx x hmem).keep hp.chg hB) (Nat.le_trans hBw hp.chg.size) (by have:=hf1 x hmem;omega)) ?_
  rintro e w ⟨rfl,hc⟩
  replace hp:=hp.call0 hc
  refine ⟨_,rfl,?_⟩
  rw [hX]
  ((conv=>whnf);repeat' ((first|((with_reducible apply ar_id);refine ar_i64 (by omega) ?_)|((with_reducible apply gen_id);first|((refine gen_bs rfl hp el_id Id.c [X] [X.v] rfl rfl rfl (fun _ hh=>by simp at hh;subst hh;rfl) (by omega) ?_);clear hp;intro br w hp)|((refine gen_app (s:=r) rfl hp 2 rfl el_id rfl ⟨some ⟨br,0,none⟩,1, [X]⟩ rfl (hp.row (j:=0) rfl) (fun _ _=>rfl) idL_one (by simp only [List.length_cons,List.length_nil];omega) (by simp only [maxLen,List.length_cons,List.length_nil];omega) ?_);clear hp;intro A2 c2 w hp;dsimp only [List.set] at hp)))<;>(conv=>whnf)))
  refine lp_next (i+1,⟨A2,c2,r.l++ [X]⟩) ?_ (by (repeat' (first|exact trivial|(refine ⟨rfl,?_⟩)))) ⟨by show i+1≤_;omega,?_,hp.tail.tail⟩
  ·show p.l.length - (i+1) < p.l.length - i;omega
  ·show r.l++ [X]=(idsP p).take (i+1)
   rw [List.take_add_one,hid,hr]
   rfl
 ·((conv=>whnf);repeat' (((with_reducible apply br_id);(with_reducible refine br_dec (fun hx=>?_) (fun hx=>?_))<;>(try (exfalso;first|omega|contradiction)))<;>(conv=>whnf)))
  refine ps_val (v':=r.v) rfl ⟨r,?_,rfl,hp.made1 (j:=0) rfl⟩
  rw [hr,List.take_of_length_le (by rw [List.length_map];exact hge)]
theorem lku_mem {κ ν:Type} [DecidableEq κ] {k:κ} {v:ν}:∀{l:List (κ×ν)},l.lookup k=some v→(k,v)∈l
 | [],h=>by simp at h
 |p::l,h=>by
  rw [List.lookup_cons] at h
  by_cases hk:k=p.1
  ·have hb:(k==p.1)=true:=by simpa using hk
   rw [hb] at h
   cases h
   subst hk
   simp
  ·have hb:(k==p.1)=false:=by simpa using hk
   rw [hb] at h
   exact List.mem_cons_of_mem _ (lku_mem h)
structure JobP where
 key:Key
 breach:Id
 height:UInt32
 mined:UInt32
 live:Int
 tiers:List (UInt32×List UInt8)
deriving DecidableEq
def Job.p (j:Job):JobP:=⟨j.key,j.breach,j.height,j.mined,j.live,j.pay.l.map tk⟩
def rightJ (j:Job):Bool:=rightP j.pay && decide (j.height.toNat≠0∧ -1≤j.live∧j.live < (j.pay.l.length:Int)∧(j.mined.toNat=0∨j.live= -1))
theorem el_job:ElT Tryz.prog 29 59 38 80:=elt_of (z:=Job.v ⟨⟨0,0⟩,Id.z,0,0,0,Sl.nil⟩) Tryz.underlying29 (by kernel_rfl) rfl (by omega)
theorem job_one {l:List Job}:∀x∈l,∀u∈Job.c x,u.oneCell'=true:=fun x _ u hu=>List.all_eq_true.1 (show (Job.c x).all Value.oneCell'=true from rfl) u hu
structure EntB where
 b:Nat
 job:Job
 ids:Sl Id
abbrev EntB.c (x:EntB):List Value:=(u32 x.job.key.ses::u32 x.job.key.seq::u8 x.job.breach[0]::u8 x.job.breach[1]::u8 x.job.breach[2]::u8 x.job.breach[3]::u8 x.job.breach[4]::u8 x.job.breach[5]::u8 x.job.breach[6]::u8 x.job.breach[7]::u8 x.job.breach[8]::u8 x.job.breach[9]::u8 x.job.breach[10]::u8 x.job.breach[11]::u8 x.job.breach[12]::u8 x.job.breach[13]::u8 x.job.breach[14]::u8 x.job.breach[15]::u8 x.job.breach[16]::u8 x.job.breach[17]::u8 x.job.breach[18]::u8 x.job.breach[19]::u8 x.job.breach[20]::u8 x.job.breach[21]::u8 x.job.breach[22]::u8 x.job.breach[23]::u8 x.job.breach[24]::u8 x.job.breach[25]::u8 x.job.breach[26]::u8 x.job.breach[27]::u8 x.job.breach[28]::u8 x.job.breach[29]::u8 x.job.breach[30]::u8 x.job.breach[31]::u32 x.job.height::u32 x.job.mined::i64 x.job.live::x.job.pay.v::x.ids.v:: [])
def ptO:Option EntB→Value
 |none=>.pointer none
 |some x=>ptr x.b
def ol (l:List (Key×EntB)):List (Key×Option EntB):=l.map fun p=>(p.1,some p.2)
theorem ol_keys (l:List (Key×EntB)):(ol l).map (·.1)=l.map (·.1):=by simp [ol,List.map_map,Function.comp_def]
theorem ol_lookup (k:Key):∀l:List (Key×EntB),((ol l).lookup k).getD none=l.lookup k∧((ol l).lookup k).isSome=(l.lookup k).isSome
 | []=>⟨rfl,rfl⟩
 |p::l=>by
  have ih:=ol_lookup k l
  unfold ol at ih ⊢
  rw [List.map_cons,List.lookup_cons,List.lookup_cons]
  by_cases hk:k=p.1
  ·have hb:(k==p.1)=true:=by simpa using hk
   rw [hb]
   exact ⟨rfl,rfl⟩
  ·have hb:(k==p.1)=false:=by simpa using hk
   rw [hb]
   exact ih
abbrev jentRs (p:Key×EntB):List Res:=cel p.2.b 272 (EntB.c p.2).toArray::rowR 48 32 Id.c p.2.ids::payRs p.2.job.pay
def jentR (p:Key×EntB):Res:=star (jentRs p)
abbrev jtRs (b m:Nat) (ord:Sl Key) (l:List (Key×EntB)):List Res:=cel b 220 #[.map (some m),ord.v]::mapR Key.v ptO m (ol l)::rowR 54 2 Key.c ord::l.map jentR
structure JentAt (w:World) (p:Key×EntB):Prop where
 cel:w.heap[p.2.b]? =some (.cells (EntB.c p.2).toArray 272)
 ids:SlAt w.heap.size w Id.c 32 p.2.ids
 pay:PayAt w.heap.size w p.2.job.pay
structure JtAt (w:World) (b m:Nat) (ord:Sl Key) (l:List (Key×EntB)):Prop where
 cel:w.heap[b]? =some (.cells #[.map (some m),ord.v] 220)
 map:MapAt Key.v ptO w m (ol l)
 ord:SlAt w.heap.size w Key.c 2 ord
 ent:∀p∈l,JentAt w p
theorem jentAt {w:World} {p:Key×EntB} (h:(jentR p).ok w):JentAt w p:=by
 have hp:=Hp.open (show (star (jentRs p)).ok w from h)
 exact ⟨hp.cel_get (j:=0) rfl,hp.row (j:=1) rfl,payRs_at hp (List.Sublist.cons _ (List.Sublist.cons _ (List.Sublist.refl _)))⟩
theorem jtAt {w:World} {b m:Nat} {ord:Sl Key} {l:List (Key×EntB)} (h:(star (jtRs b m ord l)).ok w):JtAt w b m ord l:=by
 have hp:=Hp.open h
 exact ⟨hp.cel_get (j:=0) rfl,mapR_ok.1 (hp.get (j:=1) rfl),hp.row (j:=2) rfl,fun p hm=>jentAt (hp.ok (jentR p) (List.mem_cons_of_mem _ (List.mem_cons_of_mem _ (List.mem_cons_of_mem _ (List.mem_map_of_mem hm)))))⟩
structure JtI (ord:List Key) (l:List (Key×EntB)):Prop where
 ord:ord=l.map (·.1)
 nd:(l.map (·.1)).Nodup
 key:∀p∈l,p.2.job.key=p.1
 right:∀p∈l,rightJ p.2.job=true
 ids:∀p∈l,p.2.ids.l=idsP p.2.job.pay
theorem jnew_any (w0:World):Calls Tryz.prog 103 #[] w0 fun e w'=>∃b m,e= .returned (ptr b)∧Made (star (jtRs b m Sl.nil [])) w0 w':=by
 have hp:=Hp.start (S:=N0) w0
 refine calls_x (args:= []) tabOk Tryz.func103 Tryz.ntmps103 Tryz.results103 rfl (Nat.le_of_ble_eq_true rfl) ?_
 ((conv=>whnf);repeat' ((first|((with_reducible apply al_id);refine al_cel hp ?_;clear hp;intro bb w hp)|((with_reducible apply gen_id);first|((refine gen_mmake rfl Key.v ptO hp ?_);clear hp;intro bb w hp)|(apply gen_build;exact rfl;exact rfl)))<;>(conv=>whnf)))
 replace hp:=hp.nilRow 54 2 Key.c
 exact ps_of ⟨_,_,rfl,(hp.perm (rs':= [_,_,_]) ((List.Perm.swap ..).trans (.cons _ (.swap ..)))).made (.refl _)⟩
theorem jabsent_any {w0:World} {b m:Nat} (hc:w0.cell? ⟨b,0,none⟩=some (.map (some m))):Calls Tryz.prog 164 #[ptr b] w0 fun e w'=>e= .returned (.bool false)∧Chg N0 w0 w':=by
 have hp:=Hp.start (S:=N0) w0
 refine calls_x (args:= [_]) tabOk Tryz.func164 Tryz.ntmps164 Tryz.results164 rfl (Nat.le_of_ble_eq_true rfl) ?_
 ((conv=>whnf);repeat' ((first|((with_reducible apply br_id);with_reducible refine br_f ?_)|((with_reducible apply ld_id);(refine ld_of (hp.chg.cell0 hc) ?_)))<;>(conv=>whnf)))
 exact ps_val (v':= .bool false) rfl ⟨rfl,hp.chg⟩
theorem jright_any {B:Nat} {w0:World} {j:Job} (h:PayAt B w0 j.pay) (hl: -9223372036854775808≤j.live∧j.live≤9223372036854775807):Calls Tryz.prog 165 #[j.v] w0 fun e w'=>e= .returned (.bool (rightJ j))∧Chg N0 w0 w':=by
 have hp:=Hp.start (S:=N0) w0
 have hB:∀b,N0 b→B≤b:=fun _ hh=>hh.elim
 have u1:=Tryz.underlying55
 have hmax:j.pay.l.length≤9223372036854775807:=by have:=h.row.le;have:=h.row.max;simp only [maxLen] at this;omega
 obtain ⟨q,hq⟩:∃q,rightP j.pay=q:=⟨_,rfl⟩
 have hr:rightJ j=(q && decide (j.height.toNat≠0∧ -1≤j.live∧j.live < (j.pay.l.length:Int)∧(j.mined.toNat=0∨j.live= -1))):=by unfold rightJ;rw [hq]
 have hcall:∀{w:World},Chg N0 w0 w→Calls Tryz.prog 113 #[j.pay.pv] w fun e w'=>e= .returned (.bool q)∧Chg N0 w w':=fun hc=>by rw [←hq];exact rightp_any (h.keep hc hB)
 rw [hr]
 refine calls_x (args:= [_]) tabOk Tryz.func165 Tryz.ntmps165 Tryz.results165 rfl (Nat.le_of_ble_eq_true rfl) ?_
 cases q with
 |false=>
  ((conv=>whnf);repeat' ((first|((with_reducible apply br_id);with_reducible refine br_f ?_)|((with_reducible apply ldn_id);apply ldn_hs hp;(focus repeat' constructor);exact rfl;exact rfl)|((with_reducible apply al_id);refine al_cel hp ?_;clear hp;intro bb w hp)|((with_reducible apply cl_id);(refine cl_eq ((hcall hp.chg)) rfl rfl ?_;rintro e w ⟨rfl,hcc⟩;replace hp:=hp.call0 hcc;refine ⟨_,rfl,?_⟩)))<;>(conv=>whnf)))
  exact ps_val (v':= .bool false) rfl ⟨rfl,hp.chg⟩
 |true=>
  ((conv=>whnf);repeat' ((first|((with_reducible apply br_id);first|with_reducible refine br_t ?_|with_reducible refine br_f ?_|((with_reducible refine br_dec (fun hx=>?_) (fun hx=>?_))<;>(try (exfalso;first|omega|contradiction)))|((with_reducible refine br_eq (fun hx=>?_) (fun hx=>?_))<;>(try (exfalso;first|omega|contradiction)))|((with_reducible refine br_ne (fun hx=>?_) (fun hx=>?_))<;>(try (exfalso;first|omega|contradiction))))|((with_reducible apply ld_id);apply ld_hs hp;(focus repeat' constructor);exact rfl)|((with_reducible apply ldn_id);apply ldn_hs hp;(focus repeat' constructor);exact rfl;exact rfl)|((with_reducible apply al_id);refine al_cel hp ?_;clear hp;intro bb w hp)|((with_reducible apply gen_id);apply gen_len;exact rfl;exact rfl;assumption)|((with_reducible apply cl_id);(refine cl_eq ((hcall hp.chg)) rfl rfl ?_;rintro e w ⟨rfl,hcc⟩;replace hp:=hp.call0 hcc;refine ⟨_,rfl,?_⟩)))<;>(conv=>whnf)))
  all_goals first
   |exact ps_val (v':= .bool false) rfl ⟨by rw [Bool.true_and,decide_eq_false (by omega)],hp.chg⟩
   |exact ps_val (v':= .bool true) rfl ⟨by rw [Bool.true_and,decide_eq_true (by omega)],hp.chg⟩
   |exact ps_val (v':= .bool (decide (j.live= -1))) rfl ⟨by rw [Bool.true_and];exact congrArg (fun b=>Ending.returned (.bool b)) (decide_eq_decide.2 (by omega)),hp.chg⟩
theorem rightJ_pay {j:Job} (h:rightJ j=true):rightP j.pay=true:=by
 unfold rightJ at h
 rw [Bool.and_eq_true] at h
 exact h.1
theorem rightP_few {p:Payload} (h:rightP p=true):fewP p=true:=by
 obtain ⟨_,h2,h3⟩:=rightP_at h
 unfold fewP
 rw [Bool.and_eq_true,List.all_eq_true]
 exact ⟨fun t ht=>decide_eq_true (by have:=h3 t ht;omega),decide_eq_true (by omega)⟩
theorem jown_any {B:Nat} {w0:World} {j:Job} (h:PayAt B w0 j.pay) (hBw:B≤w0.heap.size) (hf:fewP j.pay=true):Calls Tryz.prog 166 #[j.v] w0 fun e w'=>∃r:Payload,r.l.map tk=j.pay.l.map tk∧e= .returned (Job.v {j with pay:=r})∧Made (star (payRs r)) w0 w':=by
 have hp:=Hp.start (S:=N0) w0
 have hB:∀b,N0 b→B≤b:=fun _ hh=>hh.elim
 refine calls_x (args:= [_]) tabOk Tryz.func166 Tryz.ntmps166 Tryz.results166 rfl (Nat.le_of_ble_eq_true rfl) ?_
 ((conv=>whnf);repeat' ((first|((with_reducible apply ldn_id);apply ldn_hs hp;(focus repeat' constructor);exact rfl;exact rfl)|((with_reducible apply al_id);refine al_cel hp ?_;clear hp;intro bb w hp))<;>(conv=>whnf)))
 refine cl_eq (copyp_any (h.keep hp.chg hB) (Nat.le_trans hBw hp.chg.size) hf) rfl rfl ?_
 rintro e w ⟨r,hr,rfl,hm⟩
 replace hp:=hp.add hm
 clear hm
 refine ⟨_,rfl,?_⟩
 ((conv=>whnf);repeat' ((first|((with_reducible apply cn_id);refine cn rfl ?_)|((with_reducible apply ldn_id);apply lda_hs hp;(focus repeat' constructor);exact rfl)|((with_reducible apply st_id);first|(apply sta_hs hp;(focus repeat' constructor);exact rfl;exact rfl;clear hp;intro w hp;(try dsimp only [List.set] at hp))|(apply st_hs hp;(focus repeat' constructor);exact rfl;exact rfl;clear hp;intro w hp;(try dsimp only [List.set] at hp))))<;>(conv=>whnf)))
 exact ps_val (v':=Job.v {j with pay:=r}) rfl ⟨r,hr,rfl,hp.made1 (j:=0) rfl⟩
structure BlkP where
 hash:Id
 parent:Id
 txs:List Id
deriving DecidableEq
def Blk.p (x:Blk):BlkP:=⟨x.hash,x.parent,x.tx.l⟩
structure StaP where
 cfg:Cfg
 ht:UInt32
 halt:Int
 next:UInt32
 win:List BlkP
 ses:List Sess
 blobs:List BlP
 jobs:List JobP
deriving DecidableEq
def Sta.p (x:Sta):StaP:=⟨x.cfg,x.ht,x.halt,x.next,x.win.l.map Blk.p,x.ses.l,x.blobs.l.map Blob.p,x.jobs.l.map Job.p⟩
def restJ (j:JobP):JobP:={j with live:= -1}
def restP (s:StaP):StaP:={s with jobs:=s.jobs.map restJ}
abbrev btxR (b:Blk):Res:=rowR 48 32 Id.c b.tx
abbrev bdatR (b:Blob):Res:=rowR 5 1 u8L b.data
def jpayR (j:Job):Res:=star (payRs j.pay)
abbrev winRs (s:Sl Blk):List Res:=rowR 51 65 Blk.c s::s.l.map btxR
abbrev blobRs (s:Sl Blob):List Res:=rowR 46 19 Blob.c s::s.l.map bdatR
abbrev jobRs (s:Sl Job):List Res:=rowR 59 38 Job.c s::s.l.map jpayR
abbrev sesR (s:Sl Sess):Res:=rowR 103 4 Sess.c s
abbrev staRs (x:Sta):List Res:= [star (winRs x.win),sesR x.ses,star (blobRs x.blobs),star (jobRs x.jobs)]
theorem winRs_at {w:World} {s:Sl Blk} (h:(star (winRs s)).ok w):SlAt w.heap.size w Blk.c 65 s∧∀b∈s.l,SlAt w.heap.size w Id.c 32 b.tx:=by
 have hp:=Hp.open h
 exact ⟨hp.row (j:=0) rfl,fun b hb=>rowR_at (e:=48) (hp.ok (btxR b) (List.mem_cons_of_mem _ (List.mem_map_of_mem hb)))⟩
theorem blobRs_at {w:World} {s:Sl Blob} (h:(star (blobRs s)).ok w):BlobsAt w.heap.size w s:=by
 have hp:=Hp.open h
 exact ⟨hp.row (j:=0) rfl,fun b hb=>rowR_at (e:=5) (hp.ok (bdatR b) (List.mem_cons_of_mem _ (List.mem_map_of_mem hb)))⟩
theorem jobRs_at {w:World} {s:Sl Job} (h:(star (jobRs s)).ok w):SlAt w.heap.size w Job.c 38 s∧∀j∈s.l,PayAt w.heap.size w j.pay:=by
 have hp:=Hp.open h
 refine ⟨hp.row (j:=0) rfl,fun j hj=>?_⟩
 have h1:(jpayR j).ok w:=hp.ok (jpayR j) (List.mem_cons_of_mem _ (List.mem_map_of_mem hj))
 exact payRs_at (Hp.open (show (star (payRs j.pay)).ok w from h1)) (List.Sublist.refl _)
theorem staRs_at {w:World} {x:Sta} (h:(star (staRs x)).ok w):StaAt w.heap.size w x:=by
 have hp:=Hp.open h
 have h1:=winRs_at (hp.get (j:=0) rfl)
 have h3:=blobRs_at (hp.get (j:=2) rfl)
 have h4:=jobRs_at (hp.get (j:=3) rfl)
 exact ⟨h1.1,h1.2,hp.row (j:=1) rfl,h3,h4.1,h4.2⟩
theorem Hp.sta {S:Nat→Prop} {w0 w:World} {rs:List Res} {x:Sta} (h:Hp S w0 w rs) (hm:star (staRs x)∈rs):StaAt w.heap.size w x:=staRs_at (h.ok _ hm)
def vecN (n:Nat) (l:List UInt8):Vector UInt8 n:=Vector.ofFn fun i=>(l[i.val]?).getD 0
theorem vecN_list {n:Nat} {l:List UInt8} (h:l.length=n):(vecN n l).toList=l:=by
 apply List.ext_getElem?
 intro i
 by_cases hi:i < n
 ·rw [List.getElem?_eq_getElem (by simpa using hi),List.getElem?_eq_getElem (by omega)]
  simp [vecN,h,hi]
 ·rw [List.getElem?_eq_none (by simp;omega),List.getElem?_eq_none (by omega)]
theorem numBV4 {l:List UInt8} (h:l.length=4):numB (numV l) 4=l:=by
 match l,h with
 | [a,b,c,d],_=>
  have ha:=a.toNat_lt;have hb:=b.toNat_lt;have hc:=c.toNat_lt;have hd:=d.toNat_lt
  have e1:numV [a,b,c,d]=((a.toNat*256+b.toNat)*256+c.toNat)*256+d.toNat:=by simp [numV]
  have key:∀(m:Nat) (x:UInt8),m % 256=x.toNat→UInt8.ofNat m=x:=fun m x hx=>UInt8.toNat_inj.1 (by rw [UInt8.toNat_ofNat'];exact hx)
  rw [e1]
  show [UInt8.ofNat _,UInt8.ofNat _,UInt8.ofNat _,UInt8.ofNat _]=_
  rw [key _ a (by omega),key _ b (by omega),key _ c (by omega),key _ d (by omega)]
theorem b8_of {m:Nat} {x:UInt8} (h:m % 256=x.toNat):UInt8.ofNat m=x:=UInt8.toNat_inj.1 (by rw [UInt8.toNat_ofNat'];exact h)
theorem numB2 (n:Nat):numB n 2= [UInt8.ofNat (n / 2 ^ 8),UInt8.ofNat n]:=by
 unfold numB be8
 simp
theorem numVB1 {n:Nat} (h:n < 256 ^ 1):numV (numB n 1)=n:=by
 rw [numB1]
 show 0*256+(UInt8.ofNat n).toNat=n
 rw [UInt8.toNat_ofNat']
 omega
theorem numVB2 {n:Nat} (h:n < 256 ^ 2):numV (numB n 2)=n:=by
 rw [numB2]
 show (0*256+(UInt8.ofNat (n / 2 ^ 8)).toNat)*256+(UInt8.ofNat n).toNat=n
 rw [UInt8.toNat_ofNat',UInt8.toNat_ofNat']
 omega
theorem numVB4 {n:Nat} (h:n < 256 ^ 4):numV (numB n 4)=n:=by
 rw [numB4]
 show (((0*256+(UInt8.ofNat (n / 2 ^ 24)).toNat)*256+(UInt8.ofNat (n / 2 ^ 16)).toNat)*256+(UInt8.ofNat (n / 2 ^ 8)).toNat)*256+(UInt8.ofNat n).toNat=n
 simp only [UInt8.toNat_ofNat']
 omega
theorem numBV1:∀{l:List UInt8},l.length=1→numB (numV l) 1=l
 | [x],_=>by
  have:=x.toNat_lt
  rw [numB1]
  show [UInt8.ofNat (0*256+x.toNat)]=_
  rw [b8_of (x:=x) (by omega)]
theorem numBV2:∀{l:List UInt8},l.length=2→numB (numV l) 2=l
 | [x,y],_=>by
  have:=x.toNat_lt
  have:=y.toNat_lt
  rw [numB2]
  show [UInt8.ofNat (((0*256+x.toNat)*256+y.toNat) / 2 ^ 8),UInt8.ofNat ((0*256+x.toNat)*256+y.toNat)]=_
  rw [b8_of (x:=x) (by omega),b8_of (x:=y) (by omega)]
def N1:Cdc Nat:=numC 1 (fun n=>numB n 1) numV (fun n=>numB_len n 1 (by omega)) (fun _ h=>numVB1 h) (fun _ h=>numBV1 h) (fun l h=>h▸numV_lt l)
def N2:Cdc Nat:=numC 2 (fun n=>numB n 2) numV (fun n=>numB_len n 2 (by omega)) (fun _ h=>numVB2 h) (fun _ h=>numBV2 h) (fun l h=>h▸numV_lt l)
def N4:Cdc Nat:=numC 4 (fun n=>numB n 4) numV (fun n=>numB_len n 4 (by omega)) (fun _ h=>numVB4 h) (fun _ h=>numBV4 h) (fun l h=>h▸numV_lt l)
def u32C:Cdc UInt32:=mapC N4 UInt32.ofNat UInt32.toNat fun n h=>UInt32.toNat_ofNat_of_lt' (by have:n < 256 ^ 4:=h;simpa using this)
theorem u32C_ok (x:UInt32):u32C.ok x:=⟨show x.toNat < 256 ^ 4 by have:=x.toNat_lt;omega,UInt32.ofNat_toNat⟩
def idC:Cdc Id:=mapC (fixC 32) (vecN 32) Vector.toList fun _ h=>vecN_list h
def hintC:Cdc Hint:=mapC (fixC 16) (vecN 16) Vector.toList fun _ h=>vecN_list h
theorem idC_ok (x:Id):idC.ok x:=⟨show x.toList.length=32 by simp,Vector.toList_inj.1 (vecN_list (by simp))⟩
theorem hintC_ok (x:Hint):hintC.ok x:=⟨show x.toList.length=16 by simp,Vector.toList_inj.1 (vecN_list (by simp))⟩
def blkC:Cdc BlkP:=mapC (seqC idC (seqC idC (lstC (chkC N1 fun n=>decide (n≤32)) idC))) (fun p=>⟨p.1,p.2.1,p.2.2⟩) (fun b=>(b.hash,b.parent,b.txs)) fun _ _=>rfl
def rightBP (b:BlkP):Bool:=(decide (b.txs.length≤32) && !decide (b.hash=b.parent)) && decide b.txs.Nodup
def blkF:Ful2 BlkP:=fulC blkC rightBP
def payOf (ts:List TkV):Payload:=⟨none,0,ts.map fun t=>⟨t.1,⟨none,0,t.2⟩⟩⟩
theorem payOf_tk (ts:List TkV):(payOf ts).l.map tk=ts:=by
 unfold payOf
 rw [List.map_map]
 exact List.map_id' ts
def payB (ts:List TkV):List UInt8:=numB ts.length 1++ts.flatMap tkB
theorem payOf_bytes (ts:List TkV):bytesP (payOf ts).l=payB ts:=by
 rw [bytesP_tk,payOf_tk]
 unfold payB
 rw [show (payOf ts).l.length=ts.length from List.length_map ..]
def payF:Ful2 (List TkV) where
 ok ts:=rightP (payOf ts)=true
 enc:=payB
 dec l:=if (dec l).2=0 then .ok (dec l).1 else .error (dec l).2
 wr ts h:=by
  rw [←payOf_bytes,dec_bytes h,payOf_tk]
  rfl
 inv l ts h:=by
  split at h
  ·rename_i h0
   cases h
   obtain ⟨h1,h2⟩:=dec_ok h0 (payOf_tk _)
   exact ⟨h1,by rw [←payOf_bytes];exact h2.symm⟩
  ·cases h
 err l e h:=by
  split at h
  ·cases h
  ·rename_i h0
   cases h
   exact h0
def sesC:Cdc Sess:=mapC (seqC u32C (seqC u32C (seqC u32C u32C))) (fun p=>⟨p.1,p.2.1,p.2.2.1,p.2.2.2⟩) (fun s=>(s.id,s.quota,s.used,s.exp)) fun _ _=>rfl
def blobC:Cdc BlP:=mapC (seqC u32C (seqC u32C (seqC hintC (bytC N2)))) (fun p=>⟨⟨p.1,p.2.1⟩,p.2.2.1,p.2.2.2⟩) (fun b=>(b.key.ses,b.key.seq,b.hint,b.bytes)) fun _ _=>rfl
def jobC:Cdc JobP:=mapC (seqC u32C (seqC u32C (seqC idC (seqC u32C (seqC u32C (pckC N2 payF)))))) (fun p=>⟨⟨p.1,p.2.1⟩,p.2.2.1,p.2.2.2.1,p.2.2.2.2.1, -1,p.2.2.2.2.2⟩) (fun j=>(j.key.ses,j.key.seq,j.breach,j.height,j.mined,j.tiers)) fun _ _=>rfl
def intC:Cdc Int:=mapC N4 Int.ofNat Int.toNat fun _ _=>rfl
def cfgC:Cdc Cfg:=mapC (seqC intC (seqC intC (seqC intC (seqC intC (seqC intC intC))))) (fun p=>⟨p.1,p.2.1,p.2.2.1,p.2.2.2.1,p.2.2.2.2.1,p.2.2.2.2.2⟩) (fun c=>(c.dep,c.stp,c.kep,c.ses,c.cap,c.com)) fun _ _=>rfl
def haltC:Cdc Int:=mapC N1 Int.ofNat Int.toNat fun _ _=>rfl
def staC:Cdc StaP:=mapC (seqC cfgC (seqC u32C (seqC haltC (seqC u32C (seqC (lstC N1 (pckC N2 blkF)) (seqC (lstC N1 sesC) (seqC (lstC N2 blobC) (lstC N2 jobC))))))))
 (fun p=>⟨p.1,p.2.1,p.2.2.1,p.2.2.2.1,p.2.2.2.2.1,p.2.2.2.2.2.1,p.2.2.2.2.2.2.1,p.2.2.2.2.2.2.2⟩) (fun x=>(x.cfg,x.ht,x.halt,x.next,x.win,x.ses,x.blobs,x.jobs)) fun _ _=>rfl
end Go.Proofs.YtpbapnlnheahnaaGreatDoor
