/- MImprintBytes8: parts of the proof of ImprintBytes: Bits, Arr, Sub. No condition of their own. -/
import Derived.Test.YtpbapnlnheahnaaGreatDoorMImprintBytessSlice
import Derived.Laws.MakeOwn
import Derived.Laws.CopyRow
set_option linter.unusedSimpArgs false
set_option linter.unusedVariables false
namespace Go.Proofs.YtpbapnlnheahnaaGreatDoor
open Go.RowKit
abbrev u4 (x:UInt32):Value:= .int .u32 x.toNat
abbrev u4L (x:UInt32):List Value:= [u4 x]
def sr (x:UInt32) (n:Nat):UInt32:=UInt32.ofNat (x.toNat / 2 ^ n)
def sl (x:UInt32) (n:Nat):UInt32:=UInt32.ofNat (x.toNat*2 ^ n)
theorem sr_nat (x:UInt32) (n:Nat):(sr x n).toNat=x.toNat / 2 ^ n:=by
 unfold sr
 have h1:x.toNat / 2 ^ n≤x.toNat:=Nat.div_le_self _ _
 have h2:=x.toNat_lt
 simp only [UInt32.toNat_ofNat']
 exact Nat.mod_eq_of_lt (by omega)
theorem sl_nat (x:UInt32) (n:Nat):(sl x n).toNat=x.toNat*2 ^ n % 4294967296:=by
 unfold sl
 simp [UInt32.toNat_ofNat']
theorem wrap_u32 (n:Nat):IntKind.u32.wrap (n:Int)=((UInt32.ofNat n).toNat:Int):=by
 simp [IntKind.wrap,IntKind.bits,IntKind.signed]
theorem ofInt_u32 (x:UInt32):BitVec.ofInt 32 (x.toNat:Int)=x.toBitVec:=by
 apply BitVec.eq_of_toNat_eq
 simp
section
variable {P : Program} {w : World} {ρ : Operand → Value} {o : Oper} {g : Value → World → Prop} {t t2 : TypeId} {a b : Operand} {x y : UInt32}
theorem run_and:(binOp .and t (u4 x) (u4 y)).run P w= .ok (u4 (x &&& y)) w:=by
 have e:(IntKind.u32.wrap ((BitVec.ofInt 32 (x.toNat:Int) &&& BitVec.ofInt 32 (y.toNat:Int)).toNat:Int))=((x &&& y).toNat:Int):=by
  rw [ofInt_u32,ofInt_u32,wrap_u32,←UInt32.toBitVec_and,UInt32.toNat_toBitVec,UInt32.ofNat_toNat]
 show ((pure (Value.int .u32 _):Sem Value).run P w)=_
 rw [Sem.run_pure,u4,←e]
 rfl
theorem run_or:(binOp .or t (u4 x) (u4 y)).run P w= .ok (u4 (x||| y)) w:=by
 have e:(IntKind.u32.wrap ((BitVec.ofInt 32 (x.toNat:Int)||| BitVec.ofInt 32 (y.toNat:Int)).toNat:Int))=((x||| y).toNat:Int):=by
  rw [ofInt_u32,ofInt_u32,wrap_u32,←UInt32.toBitVec_or,UInt32.toNat_toBitVec,UInt32.ofNat_toNat]
 show ((pure (Value.int .u32 _):Sem Value).run P w)=_
 rw [Sem.run_pure,u4,←e]
 rfl
theorem run_xor:(binOp .xor t (u4 x) (u4 y)).run P w= .ok (u4 (x ^^^ y)) w:=by
 have e:(IntKind.u32.wrap ((BitVec.ofInt 32 (x.toNat:Int) ^^^ BitVec.ofInt 32 (y.toNat:Int)).toNat:Int))=((x ^^^ y).toNat:Int):=by
  rw [ofInt_u32,ofInt_u32,wrap_u32,←UInt32.toBitVec_xor,UInt32.toNat_toBitVec,UInt32.ofNat_toNat]
 show ((pure (Value.int .u32 _):Sem Value).run P w)=_
 rw [Sem.run_pure,u4,←e]
 rfl
theorem fdiv_nat (m n:Nat):Int.fdiv (m:Int) (2 ^ n:Int)=((m / 2 ^ n:Nat):Int):=by
 have h:(2 ^ n:Int)=((2 ^ n:Nat):Int):=by simp
 rw [h,Int.fdiv_eq_ediv_of_nonneg _ (Int.natCast_nonneg _),Int.natCast_ediv]
theorem run_shr {k:IntKind} {n:Nat} (hn:n≤32):(binOp .shr t (u4 x) (.int k n)).run P w= .ok (u4 (sr x n)) w:=by
 have h1:¬((n:Int) < 0):=by omega
 have h2:min (n:Int).toNat 32=n:=by rw [Int.toNat_natCast];omega
 simp only [binOp,Op.shift,IntKind.bits,h1,if_false,h2,fdiv_nat,Sem.run_pure,u4,sr_nat]
theorem run_shl {k:IntKind} {n:Nat} (hn:n≤32):(binOp .shl t (u4 x) (.int k n)).run P w= .ok (u4 (sl x n)) w:=by
 have h1:¬((n:Int) < 0):=by omega
 have h2:min (n:Int).toNat 32=n:=by rw [Int.toNat_natCast];omega
 have h3:(x.toNat:Int)*2 ^ n=((x.toNat*2 ^ n:Nat):Int):=by simp
 simp only [binOp,Op.shift,IntKind.bits,h1,if_false,h2,Sem.run_pure,u4,h3,wrap_u32,sl]
theorem guard_int {k k':IntKind} {m n:Int} (op:BinOp) (t:TypeId) (a b:Operand):eqGuard op t a b (.int k m) (.int k' n)=pure ():=eqGuard_at_int ..
theorem gen_and (hop:o.op= .binOp .and t a b t2) (x y:UInt32) (hx:ρ a=u4 x) (hy:ρ b=u4 y) (hk:g (u4 (x &&& y)) w):Gen P ρ o w g:=gen_bin hop (by rw [hx,hy];exact guard_int ..) (by rw [hx,hy];exact run_and) hk
theorem gen_or (hop:o.op= .binOp .or t a b t2) (x y:UInt32) (hx:ρ a=u4 x) (hy:ρ b=u4 y) (hk:g (u4 (x||| y)) w):Gen P ρ o w g:=gen_bin hop (by rw [hx,hy];exact guard_int ..) (by rw [hx,hy];exact run_or) hk
theorem gen_xor (hop:o.op= .binOp .xor t a b t2) (x y:UInt32) (hx:ρ a=u4 x) (hy:ρ b=u4 y) (hk:g (u4 (x ^^^ y)) w):Gen P ρ o w g:=gen_bin hop (by rw [hx,hy];exact guard_int ..) (by rw [hx,hy];exact run_xor) hk
theorem gen_shr (hop:o.op= .binOp .shr t a b t2) {k:IntKind} (x:UInt32) (n:Nat) (hx:ρ a=u4 x) {m:Int} (hy:ρ b= .int k m) (hm:m=(n:Int)) (hn:n≤32) (hk:g (u4 (sr x n)) w):Gen P ρ o w g:=by
 subst hm
 exact gen_bin hop (by rw [hx,hy];exact guard_int ..) (by rw [hx,hy];exact run_shr hn) hk
theorem gen_shl (hop:o.op= .binOp .shl t a b t2) {k:IntKind} (x:UInt32) (n:Nat) (hx:ρ a=u4 x) {m:Int} (hy:ρ b= .int k m) (hm:m=(n:Int)) (hn:n≤32) (hk:g (u4 (sl x n)) w):Gen P ρ o w g:=by
 subst hm
 exact gen_bin hop (by rw [hx,hy];exact guard_int ..) (by rw [hx,hy];exact run_shl hn) hk
end
section
variable {P : Program} {w : World} {ρ : Operand → Value} {o : Oper} {g : Value → Prop} {t t2 : TypeId} {a b : Operand}
theorem rd_bin {op:BinOp} {v:Value} (hop:o.op= .binOp op t a b t2) (hg:eqGuard op t a b (ρ a) (ρ b)=pure ()) (hr:∀w',(binOp op t (ρ a) (ρ b)).run P w'= .ok v w') (h:g v):Rd P ρ o w g:=⟨v,fun w' _=>by simp [execOp,hop,hg,hr w'],h⟩
theorem rd_or (hop:o.op= .binOp .or t a b t2) (x y:UInt32) (hx:ρ a=u4 x) (hy:ρ b=u4 y) (hk:g (u4 (x||| y))):Rd P ρ o w g:=rd_bin hop (by rw [hx,hy];exact guard_int ..) (fun _=>by rw [hx,hy];exact run_or) hk
theorem rd_shl (hop:o.op= .binOp .shl t a b t2) {k:IntKind} (x:UInt32) (n:Nat) (hx:ρ a=u4 x) {m:Int} (hy:ρ b= .int k m) (hm:m=(n:Int)) (hn:n≤32) (hk:g (u4 (sl x n))):Rd P ρ o w g:=by
 subst hm
 exact rd_bin hop (by rw [hx,hy];exact guard_int ..) (fun _=>by rw [hx,hy];exact run_shl hn) hk
end
theorem rd_conv {P:Program} {T:Tb} (hT:TabOk P T) {w:World} {ρ:Operand→Value} {o:Oper} {g:Value→Prop} {src dst:TypeId} {x:Operand} (hop:o.op= .convert src dst x) {k k1 k2:IntKind} (hs:kindT T src= .int k1) (hd:kindT T dst= .int k) {n:Int} (hx:ρ x= .int k2 n) (hk:Ar k n fun r=>g (.int k r)):Rd P ρ o w g:=by
 obtain ⟨r,hr,h⟩:=hk
 refine ⟨.int k r,fun w' _=>?_,h⟩
 have h1:=hT.kind.1 _ hs
 have h2:=hT.kind.1 _ hd
 simp [execOp,hop,hx,convert,run_underlying h1,run_underlying h2,Conv.intToInt,hr]
theorem ar_u4 {f:Int→Prop} (n:Nat) {s:Int} (hs:s=(n:Int)) (h:f ((UInt32.ofNat n).toNat:Int)):Ar .u32 s f:=by
 subst hs
 exact ⟨_,wrap_u32 n,h⟩
theorem ar_u4add {f:Int→Prop} (x y:UInt32) (h:f ((x+y).toNat:Int)):Ar .u32 ((x.toNat:Int)+(y.toNat:Int)) f:=ar_u32add x y h
theorem wrap_u8 (n:Nat):IntKind.u8.wrap (n:Int)=((UInt8.ofNat n).toNat:Int):=by
 simp [IntKind.wrap,IntKind.bits,IntKind.signed]
def byt (x:UInt32) (n:Nat):UInt8:=UInt8.ofNat (x.toNat / 2 ^ n)
theorem ar_byt {f:Int→Prop} (x:UInt32) (n:Nat) (h:f ((byt x n).toNat:Int)):Ar .u8 ((sr x n).toNat:Int) f:=by
 refine ⟨_,?_,h⟩
 rw [wrap_u8,sr_nat]
 rfl
theorem ar_byt0 {f:Int→Prop} (x:UInt32) (h:f ((byt x 0).toNat:Int)):Ar .u8 (x.toNat:Int) f:=by
 refine ⟨_,?_,h⟩
 rw [wrap_u8]
 simp [byt]
section
variable {α : Type} {w w0 : World} {enc : α → List Value} {sz B : Nat} {s : Sl α}
def Sl.cut (s:Sl α) (sz lo hi:Nat):Sl α:=⟨if s.c=lo then s.A else s.A.map (·.add (lo*sz)),s.c - lo,(s.l.take hi).drop lo⟩
theorem Sl.cut_len {lo hi:Nat} (h2:hi≤s.l.length):(s.cut sz lo hi).l.length=hi - lo:=by simp [Sl.cut];omega
theorem SlAt.cut (h:SlAt B w enc sz s) {lo hi:Nat} (h1:lo≤hi) (h2:hi≤s.l.length):SlAt B w enc sz (s.cut sz lo hi):=by
 have hle:=h.le
 have hmax:=h.max
 refine ⟨?_,?_,fun hA=>?_,fun hn=>?_⟩
 ·rw [Sl.cut_len h2];show _≤s.c - lo;omega
 ·show s.c - lo≤_;omega
 ·show s.c - lo=0
  by_cases hc:s.c=lo
  ·omega
  ·simp only [Sl.cut,hc,if_false,Option.map_eq_none_iff] at hA
   have:=h.nil hA
   omega
 ·have hl:0 < (s.cut sz lo hi).l.length:=List.length_pos_iff.2 hn
  rw [Sl.cut_len h2] at hl
  obtain ⟨b,o,hA,hb,hr⟩:=h.row (fun e=>by rw [e] at h2;simp at h2;omega)
  refine ⟨b,o+lo*sz,?_,hb,fun i x hi j v hj=>?_⟩
  ·simp only [Sl.cut]
   rw [if_neg (by omega),hA,Option.map_some,add_plain]
  ·simp only [Sl.cut,List.getElem?_drop] at hi
   have h3:s.l[lo+i]? =some x:=by
    rw [List.getElem?_take] at hi
    split at hi
    ·exact hi
    ·cases hi
   have:=hr (lo+i) x h3 j v hj
   rw [Nat.add_mul] at this
   rwa [show o+lo*sz+i*sz+j=o+(lo*sz+i*sz)+j by omega]
end
section
variable {α : Type} {P : Program} {S : Nat → Prop} {w w0 : World} {rs : List Res} {ρ : Operand → Value} {o : Oper} {g : Value → World → Prop} {t t2 e : TypeId} {sz bytes B : Nat} {enc : α → List Value} {x y : Operand}
theorem run_cut {lo hi:Option Operand} (hop:o.op= .slice t x lo hi none) (ht:P.underlying t=some (.slice e)) (he:∃i,P.info? e=some i∧i.size=sz) (s:Sl α) (hx:ρ x=s.v) (hc:s.l.length≤s.c) {l h:Nat}
  (hl:match lo with|some q=>∃k,ρ q= .int k l|none=>l=0) (hh:match hi with|some q=>∃k,ρ q= .int k h|none=>h=s.l.length) (h1:l≤h) (h2:h≤s.l.length):
  (execOp ρ o).run P w= .ok (.value (s.cut sz l h).v) w:=by
 obtain ⟨i,hi',hsz⟩:=he
 have e1:(s.cut sz l h).v= .slice (if s.c=l then s.A else s.A.map (·.add (l*sz))) (h - l) (s.c - l):=by
  show Value.slice _ _ _=_
  rw [Sl.cut_len h2]
  rfl
 have b1:(0:Int)≤(h:Int)∧(h:Int)≤(s.c:Int):=by omega
 have b2:(0:Int)≤(l:Int)∧(l:Int)≤(h:Int):=by omega
 rw [e1]
 cases lo<;>cases hi<;>simp only at hl hh
 ·subst hl hh
  simp [execOp,hop,hx,Instr.sliceAt,Instr.slice,run_underlying ht,Instr.sliceBounds,sizeOf,typeInfo,hi',hsz]
 ·subst hl
  obtain ⟨k,hk⟩:=hh
  simp [execOp,hop,hx,hk,Instr.sliceAt,Instr.slice,run_underlying ht,Instr.sliceBounds,Instr.sliceBound,asIntOf,b1,sizeOf,typeInfo,hi',hsz]
  all_goals (intros;omega)
 ·subst hh
  obtain ⟨k,hk⟩:=hl
  simp [execOp,hop,hx,hk,Instr.sliceAt,Instr.slice,run_underlying ht,Instr.sliceBounds,Instr.sliceBound,asIntOf,b2,sizeOf,typeInfo,hi',hsz]
  all_goals (intros;omega)
 ·obtain ⟨k,hk⟩:=hl
  obtain ⟨k',hk'⟩:=hh
  simp [execOp,hop,hx,hk,hk',Instr.sliceAt,Instr.slice,run_underlying ht,Instr.sliceBounds,Instr.sliceBound,asIntOf,b1,b2,sizeOf,typeInfo,hi',hsz]
  rw [if_pos (by omega),if_pos (by omega)]
theorem gen_cutl {lo:Operand} (hop:o.op= .slice t x (some lo) none none) (hE:ElT P t e sz bytes) (s:Sl α) (hx:ρ x=s.v) (hc:SlAt B w enc sz s) {k:IntKind} {m:Int} (hl:ρ lo= .int k m) {l:Nat} (hm:m=l) (h2:l≤s.l.length) (hk:g (s.cut sz l s.l.length).v w):Gen P ρ o w g:=by
 subst hm
 obtain ⟨ht,i,z,hi,_,hs,_⟩:=hE
 exact gen_v (run_cut hop ht ⟨i,hi,hs⟩ s hx hc.le (l:=l) (h:=s.l.length) ⟨k,hl⟩ rfl h2 (Nat.le_refl _)) hk
theorem gen_cuth {hi:Operand} (hop:o.op= .slice t x none (some hi) none) (hE:ElT P t e sz bytes) (s:Sl α) (hx:ρ x=s.v) (hc:SlAt B w enc sz s) {k:IntKind} {m:Int} (hh:ρ hi= .int k m) {h:Nat} (hm:m=h) (h2:h≤s.l.length) (hk:g (s.cut sz 0 h).v w):Gen P ρ o w g:=by
 subst hm
 obtain ⟨ht,i,z,hi',_,hs,_⟩:=hE
 exact gen_v (run_cut hop ht ⟨i,hi',hs⟩ s hx hc.le (l:=0) (h:=h) rfl ⟨k,hh⟩ (Nat.zero_le _) h2) hk
def arrS (b ofs:Nat) (l:List α):Sl α:=⟨some ⟨b,ofs,none⟩,l.length,l⟩
theorem gen_arr (hop:o.op= .slice t x none none none) {n:Nat} (ht:P.underlying t=some (.array n e)) {b ofs:Nat} (hx:ρ x= .pointer (some ⟨b,ofs,none⟩)) (he:(P.info? e).isSome=true) (l:List α) (hl:l.length=n) (hk:g (arrS b ofs l).v w):Gen P ρ o w g:=by
 obtain ⟨i,hi⟩:=Option.isSome_iff_exists.1 he
 subst hl
 refine gen_v (v:=(arrS b ofs l).v) (w':=w) ?_ hk
 by_cases h0:l.length=0<;>simp [execOp,hop,hx,Instr.sliceAt,Instr.sureAddr,run_underlying ht,Instr.sliceBounds,sizeOf,typeInfo,hi,arrS,add_plain,h0]
theorem cel_slat {j b ofs:Nat} {ct:TypeId} {cs:Array Value} {l:List α} (h:Hp S w0 w rs) (hj:rs[j]? =some (cel b ct cs)) (hsz:∀x∈l,(enc x).length=sz) (hc:(cs.toList.drop ofs).take (l.length*sz)=l.flatMap enc) (hm:l.length≤maxLen):SlAt w.heap.size w enc sz (arrS b ofs l):=by
 have hk:=cel_ok.1 (h.get hj)
 refine ⟨Nat.le_refl _,hm,fun hh=>by simp [arrS] at hh,fun _=>⟨b,ofs,rfl,(heap_lt hk),fun i x hi q v hq=>?_⟩⟩
 have h1:=flat_at hsz i x hi q v hq
 rw [←hc] at h1
 have hlt:i*sz+q < l.length*sz:=by
  have h2:=(List.getElem?_eq_some_iff.1 hi).1
  have h3:=(List.getElem?_eq_some_iff.1 hq).1
  rw [hsz x (List.mem_of_getElem? hi)] at h3
  have h4:(i+1)*sz≤l.length*sz:=Nat.mul_le_mul_right _ h2
  rw [Nat.succ_mul] at h4
  omega
 rw [List.getElem?_take_of_lt hlt,List.getElem?_drop,←Nat.add_assoc] at h1
 simp only [World.cell?,hk]
 simpa using h1
theorem gen_make {len cap:Operand} (hop:o.op= .makeSlice t len cap) (h:Hp S w0 w rs) (hE:ElT P t e sz bytes) (enc:α→List Value) {kl kc:IntKind} {m n:Int} {c:Nat} (hl:ρ len= .int kl m) (hc:ρ cap= .int kc n) (hm:m=0) (hn:n=c) (hb:bytes*c≤281474976710656) (h63:c≤maxLen)
  (hk:∀b w',Hp S w0 w' (rowR e sz enc ⟨some ⟨b,0,none⟩,c, []⟩::rs)→g (.slice (some ⟨b,0,none⟩) 0 c) w'):Gen P ρ o w g:=by
 subst hm hn
 obtain ⟨ht,i,z,hi,hz,hs,hby,hzs,hsz⟩:=hE
 subst hby
 obtain ⟨w',hr,ho,hg⟩:=run_make_own (P:=P) w 0 t e i z sz ht hi hz hs kl kc c hb h63 (Nat.zero_le _)
 refine gen_v (v:= .slice (some ⟨w.heap.size,0,none⟩) 0 c) (w':=w') (by simp [execOp,hop,hl,hc,hr]) (hk _ _ (h.new ((Chg.refl _ _).grown hg fun _ _ hh=>by cases hh) (rowR_ok.2 ⟨ho,by simp⟩) fun b hb=>?_))
 rw [rowR_dom] at hb
 have hb:w.heap.size=b:=Option.some.inj hb
 omega
theorem gen_copy (hop:o.op= .call {callee:= .builtin .copy,args:= #[x,y],argTypes:= #[t,t2]}) (h:Hp S w0 w rs) (j:Nat) {b ofs dLen dCap:Nat} {ct:TypeId} {cs:Array Value} (hj:rs[j]? =some (cel b ct cs)) (hE:ElT P t e 1 bytes) (hx:ρ x= .slice (some ⟨b,ofs,none⟩) dLen dCap) (s:Sl α) (hy:ρ y=s.v) (hs:SlAt B w enc 1 s)
  (hne:s.l≠ []) (hl:∀x∈s.l,(enc x).length=1) (h1:∀x∈s.l,∀u∈enc x,u.oneCell'=true) {n:Nat} (hn:n=min s.l.length dLen) (hfit:ofs+n≤cs.size)
  (hk:∀w',Hp S w0 w' (rs.set j (cel b ct (cs.toList.take ofs++(s.l.take n).flatMap enc++cs.toList.drop (ofs+n)).toArray))→g (.int .i64 n) w'):Gen P ρ o w g:=by
 obtain ⟨ht,i,z,hi,hz,hsz,hby,hzs,_⟩:=hE
 obtain ⟨sb,so,hA,hsb,hrow⟩:=hs.row hne
 have hlt:∀x∈s.l.take n,(enc x).length=1:=fun x hx=>hl x (List.mem_of_mem_take hx)
 have hlen:((s.l.take n).flatMap enc).length=n:=by rw [flat_len hlt,List.length_take];omega
 have hcel:=cel_ok.1 (h.get hj)
 have hr:=run_copy_row (P:=P) w t t2 o.type e b ofs dLen dCap ⟨sb,so,none⟩ s.l.length s.c cs ct ((s.l.take n).flatMap enc) ht (by simp [hi,hsz]) hcel (by rw [hlen];exact hn)
  (fun q v hv=>by
   have hq:q < n:=by have:=(List.getElem?_eq_some_iff.1 hv).1;omega
   have hq2:q < s.l.length:=by omega
   have h2:=flat_at hlt q (s.l[q]) (by rw [List.getElem?_take_of_lt hq,List.getElem?_eq_getElem hq2]) 0
   have h3:=hl _ (List.getElem_mem hq2)
   obtain ⟨v',hv'⟩:∃v',(enc (s.l[q]))[0]? =some v':=⟨(enc (s.l[q]))[0]'(by omega),List.getElem?_eq_getElem (by omega)⟩
   have h4:=h2 v' hv'
   rw [Nat.mul_one,Nat.add_zero,hv] at h4
   injection h4 with h4
   subst h4
   rw [add_plain]
   have:=hrow q _ (List.getElem?_eq_getElem hq2) 0 v hv'
   rwa [Nat.mul_one,Nat.add_zero] at this)
  (by rw [hlen];exact hfit) (fun v hv=>by
   obtain ⟨x,hx,hv⟩:=List.mem_flatMap.1 hv
   exact h1 x (List.mem_of_mem_take hx) v hv)
 rw [hlen] at hr
 refine gen_v (v:= .int .i64 n) ?_ (hk (w.setRow b (cs.toList.take ofs++(s.l.take n).flatMap enc++cs.toList.drop (ofs+n)).toArray) (h.mut hj ?_ (cel_ok.2 (setRow_heap w b cs _ ct _ hcel)) fun x hx=>.inl ?_))
 ·have hy':ρ y= .slice (some ⟨sb,so,none⟩) s.l.length s.c:=by rw [hy,Sl.v,hA]
  simp [execOp,hop,resolve,invoke,builtin,hx,hy',hr,goInt]
 ·refine ⟨rfl,rfl,rfl,by simp [World.setRow],fun k _ hk=>setRow_other w b k _ fun e=>hk ?_⟩
  rw [cel_dom]
  exact e
 ·rw [cel_dom] at hx ⊢
  exact hx
end
theorem ar_n {s:Int} {f:Int→Prop} (k:Nat) (hs:s=(k:Int)) (hk:k≤9223372036854775807) (h:f (k:Int)):Ar .i64 s f:=ar_i64 (by omega) (by rw [hs];exact h)
theorem ad1 (b k:Nat):(⟨b,0+k*1,none⟩:Addr)=⟨b,k,none⟩:=by rw [Nat.zero_add,Nat.mul_one]
theorem flat_one {α:Type} (f:α→Value) (l:List α):l.flatMap (fun x=> [f x])=l.map f:=by
 induction l with
 |nil=>rfl
 |cons x l ih=>rw [List.flatMap_cons,ih];rfl
theorem app_step {α:Type} {l:List α} {m k:Nat} {x z:α} (h:l.length=m):(l++List.replicate (k+1) z).set m x=(l++ [x])++List.replicate k z:=by
 subst h
 rw [List.set_append_right _ _ (Nat.le_refl _),Nat.sub_self,List.replicate_succ,List.set_cons_zero,List.append_assoc]
 rfl
abbrev arC {α:Type} (f:α→Value) (l:List α):Array Value:=(l.map f).toArray
section
variable {α : Type} {S : Nat → Prop} {w0 w : World} {rs : List Res} {f : α → Value} {b : Nat} {t : TypeId} {l : List α}
theorem ld_arr (h:Hp S w0 w rs) (j:Nat) (hj:rs[j]? =some (cel b t (arC f l))) {a:Addr} (i:Nat) (ha:a=⟨b,i,none⟩) {x:α} (hi:l[i]? =some x) {k:Value→Prop} (hk:k (f x)):Ld w a k:=by
 subst ha
 refine ld_cel h j hj (v:=f x) ?_ hk
 simp [arC,hi]
theorem ldn_arr (h:Hp S w0 w rs) (j:Nat) (hj:rs[j]? =some (cel b t (arC f l))) {n:Nat} (hl:l.length=n) {k:Value→Prop} (hk:k (.agg (arC f l))):LdN w ⟨b,0,none⟩ n k:=
 ldn_all h j hj (by simp [arC,hl]) hk
theorem st_arr (h:Hp S w0 w rs) (j:Nat) (hj:rs[j]? =some (cel b t (arC f l))) {a:Addr} (i:Nat) (ha:a=⟨b,i,none⟩) (x:α) {vs:List Value} (hv:vs= [f x]) (hi:i < l.length) (h1:(f x).oneCell'=true) {k:World→Prop}
  (hk:∀w',Hp S w0 w' (rs.set j (cel b t (arC f (l.set i x))))→k w'):St w a vs k:=by
 subst ha hv
 refine st_cel h j hj (by simp [h1]) (by simp [arC];omega) fun w' hw=>hk w' ?_
 have e:lay [f x] i (arC f l)=arC f (l.set i x):=by
  simp [lay,arC,List.map_set]
 rwa [e] at hw
theorem sta_arr {cs:Array Value} (h:Hp S w0 w rs) (j:Nat) (hj:rs[j]? =some (cel b t cs)) (l:List α) {vs:List Value} (hv:vs=(arC f l).toList) (hl:l.length=cs.size) (h1:∀x:α,(f x).oneCell'=true) {k:World→Prop} (hk:∀w',Hp S w0 w' (rs.set j (cel b t (arC f l)))→k w'):St w ⟨b,0,none⟩ vs k:=by
 subst hv
 refine st_all h j hj ?_ (by simp [arC,hl]) fun w' hw=>hk w' ?_
 ·simp [arC,h1]
 ·simpa [arC] using hw
theorem cn_arr {n:Nat} {A:Prop} (hl:l.length=n) (h:A):Cn ((arC f l).size=n) A:=cn (by simp [arC,hl]) h
end
section
variable {α : Type} {P : Program} {w : World} {ρ : Operand → Value} {o : Oper} {g : Value → World → Prop} {t : TypeId} {x i : Operand} {f : α → Value} {l : List α}
theorem gen_arx {e n0:Nat} (hop:o.op= .index t x i) (ht:P.underlying t=some (.array n0 e)) (hl:layOf P e=some (false,1)) {k:IntKind} {q:Int} (hx:ρ x= .agg (arC f l)) (hi:ρ i= .int k q) (hq:0≤q∧q < n0) (j:Nat) (hj:q.toNat=j) {y:α} (hy:l[j]? =some y) (hk:g (f y) w):Gen P ρ o w g:=by
 subst hj
 refine gen_v (v:=f y) (w':=w) ?_ hk
 have h1:(l.map f)[q.toNat]? =some (f y):=by simp [hy]
 have he:=run_isAgg (w:=w) hl
 have h2:(part e (l.map f).toArray q.toNat).run P w= .ok (f y) w:=by simp [part,he.1,h1]
 simp [execOp,hop,hx,hi,Instr.index,arC,run_underlying ht,asIntOf,hq,he.1,he.2,h2]
end
section
variable {P : Program} {w : World} {ρ : Operand → Value} {o : Oper} {g : Value → World → Prop} {t : TypeId}
theorem run_shr64 {k:IntKind} {m n:Nat} (hn:n≤64):(binOp .shr t (.int .u64 (m:Int)) (.int k n)).run P w= .ok (.int .u64 ((m / 2 ^ n:Nat):Int)) w:=by
 have h1:¬((n:Int) < 0):=by omega
 have h2:min (n:Int).toNat 64=n:=by rw [Int.toNat_natCast];omega
 simp only [binOp,Op.shift,IntKind.bits,h1,if_false,h2,fdiv_nat,Sem.run_pure]
theorem run_shl64 {k:IntKind} {m n:Nat} (hn:n≤64):(binOp .shl t (.int .u64 (m:Int)) (.int k n)).run P w= .ok (.int .u64 ((m*2 ^ n % 2 ^ 64:Nat):Int)) w:=by
 have h1:¬((n:Int) < 0):=by omega
 have h2:min (n:Int).toNat 64=n:=by rw [Int.toNat_natCast];omega
 have h3:(m:Int)*2 ^ n=((m*2 ^ n:Nat):Int):=by simp
 have h4:IntKind.u64.wrap ((m*2 ^ n:Nat):Int)=((m*2 ^ n % 2 ^ 64:Nat):Int):=by
  simp [IntKind.wrap,IntKind.bits,IntKind.signed]
 simp only [binOp,Op.shift,IntKind.bits,h1,if_false,h2,Sem.run_pure,h3,h4]
theorem wrap_u64 (n:Nat):IntKind.u64.wrap (n:Int)=((n % 2 ^ 64:Nat):Int):=by simp [IntKind.wrap,IntKind.bits,IntKind.signed]
theorem ofInt_u64 (n:Nat):BitVec.ofInt 64 (n:Int)=BitVec.ofNat 64 n:=by
 apply BitVec.eq_of_toNat_eq
 simp
theorem gen_shr64 {a b:Operand} {t2:TypeId} (hop:o.op= .binOp .shr t a b t2) {k:IntKind} (m n:Nat) (hx:ρ a= .int .u64 (m:Int)) {z:Int} (hy:ρ b= .int k z) (hz:z=(n:Int)) (hn:n≤64) (hk:g (.int .u64 ((m / 2 ^ n:Nat):Int)) w):Gen P ρ o w g:=by
 subst hz
 exact gen_bin hop (by rw [hx,hy];exact guard_int ..) (by rw [hx,hy];exact run_shr64 hn) hk
theorem gen_shl64 {a b:Operand} {t2:TypeId} (hop:o.op= .binOp .shl t a b t2) {k:IntKind} (m n:Nat) (hx:ρ a= .int .u64 (m:Int)) {z:Int} (hy:ρ b= .int k z) (hz:z=(n:Int)) (hn:n≤64) (hk:g (.int .u64 ((m*2 ^ n % 2 ^ 64:Nat):Int)) w):Gen P ρ o w g:=by
 subst hz
 exact gen_bin hop (by rw [hx,hy];exact guard_int ..) (by rw [hx,hy];exact run_shl64 hn) hk
end
section
variable {P : Program} {w : World} {ρ : Operand → Value} {o : Oper} {g : Value → Prop} {t : TypeId}
theorem rd_ixa {x i:Operand} (hop:o.op= .indexAddr t x i) {b ofs sz n0:Nat} {k:IntKind} {j:Int} (hx:ρ x= .pointer (some ⟨b,ofs,none⟩)) (hi:ρ i= .int k j) (he:elemOfT P t=some (false,n0,sz)) (hj:0≤j∧j < n0)
  (hk:g (.pointer (some ⟨b,ofs+j.toNat*sz,none⟩))):Rd P ρ o w g:=by
 unfold elemOfT at he
 split at he
 ·rename_i e hs
  split at he<;>simp at he
 ·rename_i n' e hs
  split at he
  ·rename_i inf hinf
   simp only [Option.some.injEq,Prod.mk.injEq,true_and] at he
   obtain ⟨rfl,rfl⟩:=he
   exact ⟨_,fun w' _=>by simp [execOp,hop,hx,hi,Instr.indexAt,Instr.sureAddr,asIntOf,run_underlying hs,hj,sizeOf,typeInfo,hinf,add_plain],hk⟩
  ·cases he
 ·cases he
end
theorem ar_u8n {f:Int→Prop} (n:Nat) {s:Int} (hs:s=(n:Int)) (h:f ((UInt8.ofNat n).toNat:Int)):Ar .u8 s f:=by
 subst hs
 exact ⟨_,wrap_u8 n,h⟩
theorem tmod_n (n k:Nat):Int.tmod (n:Int) (k:Int)=((n % k:Nat):Int):=by rw [Int.tmod_eq_emod_of_nonneg (Int.natCast_nonneg _)];rfl
section
variable {α : Type} {B : Nat} {S : Nat → Prop} {w w' : World} {enc : α → List Value} {sz lo : Nat} {R s : Sl α}
theorem SlAt.keepS (h:SlAt B w enc sz s) (hc:Chg S w w') (hn:s.l≠ []→∀b o,s.A=some ⟨b,o,none⟩→¬S b):SlAt B w' enc sz s:=
 ⟨h.le,h.max,h.nil,fun hne=>by
  obtain ⟨b,o,h1,h2,h3⟩:=h.row hne
  exact ⟨b,o,h1,h2,h3.keep hc (hn hne b o h1)⟩⟩
structure Part (R s:Sl α) (sz lo:Nat):Prop where
 l:s.l=R.l.drop lo
 c:s.c=R.c - lo
 nil:s.A=none→s.c=0
 at_:s.l≠ []→∃b o,R.A=some ⟨b,o,none⟩∧s.A=some ⟨b,o+lo*sz,none⟩
theorem Part.start (h:SlAt B w enc sz R):Part R R sz 0:=⟨rfl,rfl,h.nil,fun hn=>by
 obtain ⟨b,o,hA,_⟩:=h.row hn
 exact ⟨b,o,hA,by rw [hA,Nat.zero_mul,Nat.add_zero]⟩⟩
theorem Part.slat (h:Part R s sz lo) (hR:SlAt B w enc sz R):SlAt B w enc sz s:=by
 have hle:=hR.le
 have hmax:=hR.max
 refine ⟨by rw [h.l,h.c,List.length_drop];omega,by rw [h.c];omega,h.nil,fun hn=>?_⟩
 obtain ⟨b,o,h1,h2⟩:=h.at_ hn
 have hRn:R.l≠ []:=fun e=>hn (by rw [h.l,e,List.drop_nil])
 obtain ⟨b',o',h3,h4,h5⟩:=hR.row hRn
 rw [h1] at h3
 cases h3
 refine ⟨b,o+lo*sz,h2,h4,fun i x hi j v hj=>?_⟩
 rw [h.l,List.getElem?_drop] at hi
 have:=h5 (lo+i) x hi j v hj
 rwa [show o+lo*sz+i*sz+j=o+(lo+i)*sz+j from by rw [Nat.add_mul];omega]
theorem Part.cut (h:Part R s sz lo) (hs:s.l.length≤s.c) {k:Nat} (hk:k≤s.l.length):Part R (s.cut sz k s.l.length) sz (lo+k):=by
 refine ⟨?_,?_,fun hA=>?_,fun hn=>?_⟩
 ·show (s.l.take s.l.length).drop k=_
  rw [List.take_length,h.l,List.drop_drop]
 ·show s.c - k=_
  rw [h.c];omega
 ·show s.c - k=0
  by_cases hc:s.c=k
  ·omega
  ·simp only [Sl.cut,hc,if_false,Option.map_eq_none_iff] at hA
   have:=h.nil hA
   omega
 ·have hl:0 < (s.cut sz k s.l.length).l.length:=List.length_pos_iff.2 hn
  rw [Sl.cut_len (Nat.le_refl _)] at hl
  obtain ⟨b,o,h1,h2⟩:=h.at_ (List.length_pos_iff.1 (by omega))
  refine ⟨b,o,h1,?_⟩
  simp only [Sl.cut]
  rw [if_neg (by omega),h2,Option.map_some,add_plain,Nat.add_assoc,Nat.add_mul]
end
section
variable {α : Type} {P : Program} {w : World} {ρ : Operand → Value} {o : Oper} {g : Value → Prop} {t e : TypeId} {sz bytes : Nat} {x : Operand}
theorem rd_cuth {hi:Operand} (hop:o.op= .slice t x none (some hi) none) (hE:ElT P t e sz bytes) (s:Sl α) (hx:ρ x=s.v) (hc:s.l.length≤s.c) {k:IntKind} {m:Int} (hh:ρ hi= .int k m) {h:Nat} (hm:m=h) (h2:h≤s.l.length) (hk:g (s.cut sz 0 h).v):Rd P ρ o w g:=by
 subst hm
 obtain ⟨ht,i,z,hi',_,hs,_⟩:=hE
 exact ⟨_,fun w' _=>run_cut hop ht ⟨i,hi',hs⟩ s hx hc (l:=0) (h:=h) rfl ⟨k,hh⟩ (Nat.zero_le _) h2,hk⟩
theorem rd_arr (hop:o.op= .slice t x none none none) {n:Nat} (ht:P.underlying t=some (.array n e)) {b ofs:Nat} (hx:ρ x= .pointer (some ⟨b,ofs,none⟩)) (he:(P.info? e).isSome=true) (l:List α) (hl:l.length=n) (hk:g (arrS b ofs l).v):Rd P ρ o w g:=by
 obtain ⟨i,hi⟩:=Option.isSome_iff_exists.1 he
 subst hl
 refine ⟨(arrS b ofs l).v,fun w' _=>?_,hk⟩
 by_cases h0:l.length=0<;>simp [execOp,hop,hx,Instr.sliceAt,Instr.sureAddr,run_underlying ht,Instr.sliceBounds,sizeOf,typeInfo,hi,arrS,add_plain,h0]
end
theorem u8_one {l:List UInt8}:∀x∈l,∀u∈u8L x,u.oneCell'=true:=fun x _ u hu=>by
 simp only [u8L,List.mem_singleton] at hu
 subst hu
 rfl
end Go.Proofs.YtpbapnlnheahnaaGreatDoor
