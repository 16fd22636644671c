/- MRespondEvicted27: ShList, Sort0, Sort1, Sort2, Sort3, Sort4, Sort5, Sort6, Sort7, Tab23, Tab23b, Tab23c, Book6, Respond, Due, SubP, SendP, Rf2. -/
import Derived.Test.YteabebmlclgakaaGreatMRespondEvicted26
import Derived.Test.YteabebmlclgakaaGreatMRespondEvicted11
import Derived.Shelf.SlGeneric
import Derived.Test.YteabebmlclgakaaGreatMRespondEvicted8
import Derived.Sort.LotA
import Derived.Sort.LotB
import Derived.Sort.LotD3
import Derived.Lib.BitFns
import Derived.Test.YteabebmlclgakaaGreatMRespondEvictedsTailS
import Derived.Test.YteabebmlclgakaaGreatMRespondEvicted6
import Derived.Sort.LotC
import Derived.Test.YteabebmlclgakaaGreatMRespondEvicted9
import Derived.Test.YteabebmlclgakaaGreatMRespondEvicted7
import Derived.Test.YteabebmlclgakaaGreatMRespondEvicted19
import Derived.Test.YteabebmlclgakaaGreatMRespondEvicted24
import Derived.Test.YteabebmlclgakaaGreatMRespondEvicted17
set_option linter.unusedSimpArgs false
set_option linter.unusedVariables false
/- ShList: shelf.List: what a shelf has, in the order in which it came. -/
namespace Go.Proofs.YteabebmlclgakaaGreat
open Go.RowKit Go.Shelf Go.Lib
set_option maxRecDepth 100000
set_option maxHeartbeats 2000000
def srtE_ren : Go.Shelf.Ren := ⟨fun | 6 => 138 | 15 => 201 | 14 => 200 | 28 => 235 | 29 => 236 | 20 => 227 | 21 => 228 | 22 => 229 | 23 => 230 | 24 => 231 | 25 => 232 | 26 => 233 | 27 => 234 | 46 => 258 | 47 => 259 | 48 => 260 | 49 => 261 | 50 => 262 | 57 => 276 | n => n, fun | 22 => 207 | 24 => 209 | 25 => 211 | 3 => 3 | 39 => 278 | 0 => 0 | 53 => 24 | 55 => 85 | 4 => 4 | 46 => 306 | 45 => 305 | 50 => 310 | 5 => 5 | 9 => 9 | 66 => 335 | 70 => 339 | 76 => 353 | 77 => 354 | n => n, fun | n => n⟩
theorem srtE : Go.Proofs.SlLaysF0.n6 Tryz.prog srtE_ren := {
  mixed := by kernel_rfl
  f6 := ⟨Tryz.f138.name, by decide, Tryz.func138.trans (congrArg some (by kernel_rfl))⟩
  f14 := ⟨Tryz.f200.name, by decide, Tryz.func200.trans (congrArg some (by kernel_rfl))⟩
  f15 := Tryz.func201.trans (congrArg some (by kernel_rfl))
  f20 := ⟨Tryz.f227.name, by decide, Tryz.func227.trans (congrArg some (by kernel_rfl))⟩
  f21 := ⟨Tryz.f228.name, by decide, Tryz.func228.trans (congrArg some (by kernel_rfl))⟩
  f22 := ⟨Tryz.f229.name, by decide, Tryz.func229.trans (congrArg some (by kernel_rfl))⟩
  f23 := ⟨Tryz.f230.name, by decide, Tryz.func230.trans (congrArg some (by kernel_rfl))⟩
  f24 := ⟨Tryz.f231.name, by decide, Tryz.func231.trans (congrArg some (by kernel_rfl))⟩
  f25 := ⟨Tryz.f232.name, by decide, Tryz.func232.trans (congrArg some (by kernel_rfl))⟩
  f26 := ⟨Tryz.f233.name, by decide, Tryz.func233.trans (congrArg some (by kernel_rfl))⟩
  f27 := ⟨Tryz.f234.name, by decide, Tryz.func234.trans (congrArg some (by kernel_rfl))⟩
  f28 := Tryz.func235.trans (congrArg some (by kernel_rfl))
  f29 := Tryz.func236.trans (congrArg some (by kernel_rfl))
  f46 := ⟨Tryz.f258.name, by decide, Tryz.func258.trans (congrArg some (by kernel_rfl))⟩
  f47 := Tryz.func259.trans (congrArg some (by kernel_rfl))
  f48 := Tryz.func260.trans (congrArg some (by kernel_rfl))
  f49 := ⟨Tryz.f261.name, by decide, Tryz.func261.trans (congrArg some (by kernel_rfl))⟩
  f50 := ⟨Tryz.f262.name, by decide, Tryz.func262.trans (congrArg some (by kernel_rfl))⟩
  f57 := ⟨Tryz.f276.name, by decide, Tryz.func276.trans (congrArg some (by kernel_rfl))⟩
  t0 := Tryz.underlying0
  a0 := Tryz.isAgg0
  z0 := Tryz.sizeOf0
  v0 := Tryz.zeroValue0
  t3 := Tryz.underlying3
  a3 := Tryz.isAgg3
  z3 := Tryz.sizeOf3
  v3 := Tryz.zeroValue3
  t4 := Tryz.underlying4
  a4 := Tryz.isAgg4
  z4 := Tryz.sizeOf4
  v4 := Tryz.zeroValue4
  t5 := Tryz.underlying5
  a5 := Tryz.isAgg5
  z5 := Tryz.sizeOf5
  v5 := Tryz.zeroValue5
  t9 := Tryz.underlying9
  a9 := Tryz.isAgg9
  z9 := Tryz.sizeOf9
  v9 := Tryz.zeroValue9
  t22 := Tryz.underlying207
  a22 := Tryz.isAgg207
  z22 := Tryz.sizeOf207
  v22 := Tryz.zeroValue207
  t25 := Tryz.underlying211
  a25 := Tryz.isAgg211
  z25 := Tryz.sizeOf211
  v25 := Tryz.zeroValue211
  t39 := Tryz.underlying278
  a39 := Tryz.isAgg278
  z39 := Tryz.sizeOf278
  v39 := Tryz.zeroValue278
  t45 := Tryz.underlying305
  a45 := Tryz.isAgg305
  z45 := Tryz.sizeOf305
  v45 := Tryz.zeroValue305
  t46 := Tryz.underlying306
  a46 := Tryz.isAgg306
  z46 := Tryz.sizeOf306
  v46 := Tryz.zeroValue306
  t50 := Tryz.underlying310
  a50 := Tryz.isAgg310
  z50 := Tryz.sizeOf310
  v50 := Tryz.zeroValue310
  t53 := Tryz.underlying24
  a53 := Tryz.isAgg24
  z53 := Tryz.sizeOf24
  v53 := Tryz.zeroValue24
  t55 := Tryz.underlying85
  a55 := Tryz.isAgg85
  z55 := Tryz.sizeOf85
  v55 := Tryz.zeroValue85
  t66 := Tryz.underlying335
  a66 := Tryz.isAgg335
  z66 := Tryz.sizeOf335
  v66 := Tryz.zeroValue335
  t70 := Tryz.underlying339
  a70 := Tryz.isAgg339
  z70 := Tryz.sizeOf339
  v70 := Tryz.zeroValue339
  t76 := Tryz.underlying353
  a76 := Tryz.isAgg353
  z76 := Tryz.sizeOf353
  v76 := Tryz.zeroValue353
  t77 := Tryz.underlying354
  a77 := Tryz.isAgg354
  z77 := Tryz.sizeOf354
  v77 := Tryz.zeroValue354 }
structure EntS where
 e:Ent
 ok:0≤e.place∧e.place≤100000
instance:Inhabited EntS:=⟨⟨Ent.z,by decide⟩⟩
end Go.Proofs.YteabebmlclgakaaGreat
/- Sort0: arrays and rows; swaps; lengths in bits. No condition. -/
namespace Go.Proofs.YteabebmlclgakaaGreat
open Go.RowKit
section
variable {α : Type} [Inhabited α]
end
section
variable {α : Type} {S : Nat → Prop} {w0 w : World} {rs : List Res} {enc : α → List Value} {e : TypeId} {sz : Nat} {s : Sl α}
end
section
variable {P : Program} {w : World} {ρ : Operand → Value} {o : Oper} {g : Value → World → Prop} {t : TypeId} {x i : Operand}
end
section
variable {α : Type} [Inhabited α] {lt : α → α → Bool} {d : Array α}
end
end Go.Proofs.YteabebmlclgakaaGreat
/- Sort1: slices.Sort at uint32: comparing, sorting by insertion, by a heap, turning round. Of own rows of at most a million. -/
namespace Go.Proofs.YteabebmlclgakaaGreat
open Go.RowKit
set_option maxRecDepth 100000
set_option maxHeartbeats 4000000
section
variable {w0 : World} {g c N : Nat} {d : Array UInt32}
end
end Go.Proofs.YteabebmlclgakaaGreat
/- Sort2: slices.Sort at uint32: a length's bits, breaking patterns. Of own rows of at most a million. -/
namespace Go.Proofs.YteabebmlclgakaaGreat
open Go.RowKit
set_option maxRecDepth 100000
set_option maxHeartbeats 4000000
end Go.Proofs.YteabebmlclgakaaGreat
/- Sort3: slices.Sort at uint32: turning round, choosing a pivot. Of own rows of at most a million. -/
namespace Go.Proofs.YteabebmlclgakaaGreat
open Go.RowKit
set_option maxRecDepth 100000
set_option maxHeartbeats 4000000
section
variable {w0 : World} {g c N : Nat} {d : Array UInt32}
end
end Go.Proofs.YteabebmlclgakaaGreat
/- Sort4: slices.Sort at uint32: partition, partitionEqual. Of own rows of at most a million. (printed by gen_part.py) -/
namespace Go.Proofs.YteabebmlclgakaaGreat
open Go.RowKit
set_option maxRecDepth 100000
set_option maxHeartbeats 40000000
section
variable {w0 : World} {g c N : Nat} {d : Array UInt32}
end
end Go.Proofs.YteabebmlclgakaaGreat
/- Sort5: slices.Sort at uint32: partial insertion. Of own rows of at most a million. (printed by gen_pins.py) -/
namespace Go.Proofs.YteabebmlclgakaaGreat
open Go.RowKit
set_option maxRecDepth 100000
set_option maxHeartbeats 40000000
section
variable {w0 : World} {g c N : Nat} {d : Array UInt32}
end
end Go.Proofs.YteabebmlclgakaaGreat
/- Sort6: slices.Sort at uint32: the whole. Of own rows of at most a million. -/
namespace Go.Proofs.YteabebmlclgakaaGreat
open Go.RowKit
set_option maxRecDepth 100000
set_option maxHeartbeats 40000000
end Go.Proofs.YteabebmlclgakaaGreat
/- Sort7: slices.Sort at uint32: what it leaves. Of own rows of at most a million. -/
namespace Go.Proofs.YteabebmlclgakaaGreat
open Go.RowKit
set_option maxRecDepth 100000
set_option maxHeartbeats 4000000
end Go.Proofs.YteabebmlclgakaaGreat
/- Tab23: package session's table: what its methods read; End, Clone, the sorted lists. Of tables whose keys are their sessions' own. -/
namespace Go.Proofs.YteabebmlclgakaaGreat
open Go.RowKit
set_option maxRecDepth 100000
set_option maxHeartbeats 4000000
section
variable {P : Program} {w0 w : World} {rs : List Res} {κ ν : Type} [DecidableEq κ] {enc : κ → Value} {val : ν → Value} {k e t : TypeId} {b : Nat} {l : List (κ × ν)} {ρ : Operand → Value} {o : Oper}
end
section
variable {w0 : World} {b m : Nat} {room : Int} {l : List (UInt32 × Sess)}
end
end Go.Proofs.YteabebmlclgakaaGreat
/- Tab23b: package session's table beside the document's list: End, Clone, List, Before. Of tables that hold what the list does. -/
namespace Go.Proofs.YteabebmlclgakaaGreat
open Go.RowKit
set_option maxRecDepth 100000
set_option maxHeartbeats 4000000
section
variable {l : List (UInt32 × Sess)} {W : List Sess}
end
end Go.Proofs.YteabebmlclgakaaGreat
/- Tab23c: package session's table: End, List, Before, Clone of tables that hold what a list does. -/
namespace Go.Proofs.YteabebmlclgakaaGreat
open Go.RowKit
set_option maxRecDepth 100000
set_option maxHeartbeats 4000000
section
variable {w0 : World} {b m : Nat} {room : Int} {l : List (UInt32 × Sess)} {W : List Sess}
end
end Go.Proofs.YteabebmlclgakaaGreat
/- Book6: package book: the state that a loaded book tells. Of states that are few. -/
namespace Go.Proofs.YteabebmlclgakaaGreat
open Go.RowKit
set_option maxRecDepth 100000
set_option maxHeartbeats 4000000
end Go.Proofs.YteabebmlclgakaaGreat
/- Respond: tier.At, respond.Due, and the document's answers. -/
namespace Go.Proofs.YteabebmlclgakaaGreat
open Go.RowKit
set_option maxRecDepth 100000
set_option maxHeartbeats 2000000
theorem few_tx {p:Payload} (h:fewP p=true) {t:Tier} (ht:t∈p.l):t.tx.l.length≤200:=(fewP_at h).1 t ht
theorem u8L_one {l:List UInt8}:∀x∈l,∀u∈u8L x,u.oneCell'=true:=fun x _ u hu=>by
 simp [u8L] at hu
 subst hu
 rfl
def tierAt (breach height:Nat) (step:Int) (many:Nat):Nat:=if height≤breach∨many < 1 then 0 else min ((height - breach) / (max step 1).toNat) (many - 1)
theorem at_any (w0:World) (b h:UInt32) (step:Int) (hs: -9223372036854775808≤step∧step≤9223372036854775807) (many:Nat) (hm:many≤9223372036854775807):
  Calls Tryz.prog 102 #[u32 b,u32 h,i64 step,errno many] w0 fun e w'=>e= .returned (errno (tierAt b.toNat h.toNat step many))∧Chg N0 w0 w':=by
 have hp:=Hp.start (S:=N0) w0
 have hb:b.toNat < 4294967296:=b.toNat_lt
 have hh:h.toNat < 4294967296:=h.toNat_lt
 have hz:h.toNat≤b.toNat∨many < 1→tierAt b.toNat h.toNat step many=0:=fun hc=>by unfold tierAt;rw [if_pos hc]
 have hq:b.toNat < h.toNat→IntKind.u64.wrap ((h.toNat - b.toNat:Int).tdiv (max step 1))=(((h.toNat - b.toNat) / (max step 1).toNat:Nat):Int):=fun h1=>by
  have e1:(h.toNat - b.toNat:Int)=((h.toNat - b.toNat:Nat):Int):=by omega
  obtain ⟨d,hd⟩:∃d:Nat,max step 1=d:=⟨(max step 1).toNat,by omega⟩
  rw [e1,hd,←Int.ofNat_tdiv,Int.toNat_natCast]
  have:=Nat.div_le_self (h.toNat - b.toNat) d
  generalize (h.toNat - b.toNat) / d=q at this ⊢
  exact IntWalk.u64_in _ (by omega)
 have hr:b.toNat < h.toNat→1≤many→tierAt b.toNat h.toNat step many=min ((h.toNat - b.toNat) / (max step 1).toNat) (many - 1):=fun h1 h2=>by unfold tierAt;rw [if_neg (by omega)]
 have hle:=Nat.div_le_self (h.toNat - b.toNat) (max step 1).toNat
 refine calls_x (args:= [_,_,_,_]) tabOk Tryz.func102 Tryz.ntmps102 Tryz.results102 rfl (Nat.le_of_ble_eq_true rfl) ?_
 ((conv=>whnf);repeat' ((first|((with_reducible refine br_id ?_);first|(with_reducible refine br_t ?_)|(with_reducible refine br_f ?_)|((with_reducible refine br_dec (fun hx=>?_) (fun hx=>?_))<;>(try (exfalso;first|omega|contradiction))))|((with_reducible refine ar_id ?_);first|((refine ar_is _ (hq (by omega)) ?_))|(refine ar_i64 (by omega) ?_)|(refine ar_u32 (by omega) ?_)|(refine ar_u64 (by omega) ?_))|((with_reducible refine cn_id ?_);(refine cn (by omega) ?_))|((with_reducible refine gen_id ?_);first|(apply gen_min;exact rfl;exact rfl;exact rfl)|(apply gen_max;exact rfl;exact rfl;exact rfl)))<;>(conv=>whnf)))
 ·rw [hz (by omega)]
  exact ps_val (v':=errno 0) rfl ⟨rfl,hp.chg⟩
 ·rw [hz (by omega)]
  exact ps_val (v':=errno 0) rfl ⟨rfl,hp.chg⟩
 ·rw [hr (by omega) (by omega)]
  generalize (h.toNat - b.toNat) / (max step 1).toNat=q at hle ⊢
  refine ps_val (v':= .int .i64 (min (q:Int) (many - 1))) rfl ⟨?_,hp.chg⟩
  rw [show min (q:Int) (many - 1)=((min q (many - 1):Nat):Int) by omega]
theorem tierAt_lt {b h many:Nat} {step:Int} (h1:1≤many):tierAt b h step many < many:=by
 unfold tierAt
 split
 ·omega
 ·have:=Nat.min_le_right ((h - b) / (max step 1).toNat) (many - 1)
  omega
def dueN (j:Job) (height:UInt32) (step:Int):Option Nat:=
 if j.mined.toNat≠0∨j.pay.l.length=0∨(tierAt j.height.toNat height.toNat step j.pay.l.length:Int)=j.live then none else some (tierAt j.height.toNat height.toNat step j.pay.l.length)
def DuePost (j:Job) (height:UInt32) (step:Int) (w0:World) (e:Ending) (w':World):Prop:=
 (dueN j height step=none∧e= .returned (.tuple #[Sub.z.v, .bool false])∧Chg N0 w0 w')∨
 ∃n t s,dueN j height step=some n∧j.pay.l[n]? =some t∧s.l=t.tx.l∧e= .returned (.tuple #[(Sub.mk j.key j.breach height n s).v, .bool true])∧Made (rowR 5 1 u8L s) w0 w'
theorem due_any {B:Nat} {w0:World} {j:Job} (h:PayAt B w0 j.pay) (hf:fewP j.pay=true) (height:UInt32) (step:Int) (hs: -9223372036854775808≤step∧step≤9223372036854775807):
  Calls Tryz.prog 58 #[j.v,u32 height,i64 step] w0 (DuePost j height step w0):=by
 have hp:=Hp.start (S:=N0) w0
 have hB:∀b,N0 b→B≤b:=fun _ hh=>hh.elim
 have u1:=Tryz.underlying45
 have u2:=Tryz.underlying38
 have hmax:j.pay.l.length≤9223372036854775807:=by have:=h.row.le;have:=h.row.max;simp only [maxLen] at this;omega
 refine calls_x (args:= [_,_,_]) tabOk Tryz.func58 Tryz.ntmps58 Tryz.results58 rfl (Nat.le_of_ble_eq_true rfl) ?_
 ((conv=>whnf);repeat' ((first|((with_reducible refine ld_id ?_);(apply ld_hs hp;(focus repeat' constructor);exact rfl))|((with_reducible refine al_id ?_);(refine al_cel hp ?_;clear hp;intro bb w hp))|((with_reducible refine gen_id ?_);(apply gen_len;exact rfl;exact rfl;assumption)))<;>(conv=>whnf)))
 refine cl_of (at_any _ j.height height step hs j.pay.l.length hmax) ?_
 rintro e w ⟨rfl,hc⟩
 replace hp:=hp.call0 hc
 refine ⟨_,rfl,?_⟩
 obtain ⟨n,hn⟩:∃n,tierAt j.height.toNat height.toNat step j.pay.l.length=n:=⟨_,rfl⟩
 rw [hn]
 ((conv=>whnf);repeat' ((first|((with_reducible refine br_id ?_);first|(with_reducible refine br_t ?_)|(with_reducible refine br_f ?_)|((with_reducible refine br_eq (fun hx=>?_) (fun hx=>?_))<;>(try (exfalso;first|omega|contradiction)))|((with_reducible refine br_ne (fun hx=>?_) (fun hx=>?_))<;>(try (exfalso;first|omega|contradiction))))|((with_reducible refine cn_id ?_);(refine cn rfl ?_))|((with_reducible refine ld_id ?_);(apply ld_hs hp;(focus repeat' constructor);exact rfl))|((with_reducible refine ldn_id ?_);first|(apply lda_hs hp;(focus repeat' constructor);exact rfl)|(apply ldn_hs hp;(focus repeat' constructor);exact rfl;exact rfl))|((with_reducible refine st_id ?_);(apply sta_hs hp;(focus repeat' constructor);exact rfl;exact rfl;clear hp;intro w hp;(try dsimp only [List.set] at hp)))|((with_reducible refine gen_id ?_);(apply gen_build;exact rfl;exact rfl))|((with_reducible refine dr_id ?_);(refine dr_autog tabOk (by kernel_rfl) (by decide+kernel) ?_;(try replace hp:=hp.drew))))<;>(conv=>whnf)))
 ·exact ps_val (v':= .tuple #[Sub.z.v, .bool false]) (by kernel_rfl) (.inl ⟨by unfold dueN;rw [if_pos (by omega)],rfl,hp.chg⟩)
 ·exact ps_val (v':= .tuple #[Sub.z.v, .bool false]) (by kernel_rfl) (.inl ⟨by unfold dueN;rw [if_pos (by omega)],rfl,hp.chg⟩)
 ·exact ps_val (v':= .tuple #[Sub.z.v, .bool false]) (by kernel_rfl) (.inl ⟨by unfold dueN;rw [if_pos (by omega)],rfl,hp.chg⟩)
 have hlt:n < j.pay.l.length:=by rw [←hn];exact tierAt_lt (by omega)
 obtain ⟨b,o,x,hA,hb,hrow,hxx⟩:=h.row.has hlt
 have htx:=h.tx x (List.mem_of_getElem? hxx)
 have hfew:=few_tx hf (List.mem_of_getElem? hxx)
 ((conv=>whnf);repeat' ((first|((with_reducible refine cn_id ?_);first|(refine cn rfl ?_)|(refine cn ‹_› ?_))|((with_reducible refine ld_id ?_);((refine ld_row hp hB ‹_› ‹_› _ _ rfl ‹_› (by rfl) ?_)))|((with_reducible refine ldn_id ?_);(apply lda_hs hp;(focus repeat' constructor);exact rfl))|((with_reducible refine st_id ?_);(apply sta_hs hp;(focus repeat' constructor);exact rfl;exact rfl;clear hp;intro w hp;(try dsimp only [List.set] at hp)))|((with_reducible refine gen_id ?_);first|((refine gen_app0 rfl hp el_u8 rfl x.tx rfl (htx.keep hp.chg hB) (fun _ _=>rfl) u8L_one (by omega) (by simp only [maxLen];omega) ?_);clear hp;intro A' c' w hg hp)|((refine gen_build (t:=69) (out:=(Sub.mk j.key j.breach height n ⟨A',c',x.tx.l⟩).c) rfl (by kernel_rfl) ?_)))|((with_reducible refine rd_id ?_);((refine rd_ixs rfl rfl ‹_› rfl rfl (by omega) ?_))))<;>(conv=>whnf)))
 refine ps_val (v':= .tuple #[(Sub.mk j.key j.breach height n ⟨A',c',x.tx.l⟩).v, .bool true]) rfl (.inr ⟨n,x,⟨A',c',x.tx.l⟩,?_,hxx,rfl,rfl,hp.made1 (j:=0) rfl⟩)
 unfold dueN
 rw [if_neg (by omega),hn]
end Go.Proofs.YteabebmlclgakaaGreat
/- Due: the document's Due, whether two submissions are the same, and a job that is due. -/
namespace Go.Proofs.YteabebmlclgakaaGreat
open Go.RowKit
set_option maxRecDepth 100000
set_option maxHeartbeats 2000000
def jobA (b1 b2:Nat) (live:Int):Job:=⟨⟨0,0⟩,Id.z,5,0,live,⟨some ⟨b2,0,none⟩,1, [⟨1,⟨some ⟨b1,0,none⟩,1, [7]⟩⟩]⟩⟩
theorem alive34_any (w0:World):Calls Tryz.prog 15 #[] w0 fun e w'=>e= .returned (.bool true)∧Chg N0 w0 w':=by
 have hp:=Hp.start (S:=N0) w0
 have u2:=Tryz.underlying38
 refine calls_x (args:= []) tabOk Tryz.func15 Tryz.ntmps15 Tryz.results15 rfl (Nat.le_of_ble_eq_true rfl) ?_
 ((conv=>whnf);repeat' ((first|((with_reducible refine cn_id ?_);(refine cn rfl ?_))|((with_reducible refine ldn_id ?_);(apply lda_hs hp;(focus repeat' constructor);exact rfl))|((with_reducible refine al_id ?_);(refine al_cel hp ?_;clear hp;intro bb w hp))|((with_reducible refine st_id ?_);(apply sta_hs hp;(focus repeat' constructor);exact rfl;exact rfl;clear hp;intro w hp;(try dsimp only [List.set] at hp)))|((with_reducible refine gen_id ?_);first|((refine gen_bs rfl hp el_u8 u8L [7] [.int .u8 7] rfl rfl rfl (fun _ _=>rfl) (by omega) ?_);clear hp;intro b1 w hp)|((refine gen_bs rfl hp el_tier Tier.c [⟨1,⟨some ⟨b1,0,none⟩,1, [7]⟩⟩] [Tier.v ⟨1,⟨some ⟨b1,0,none⟩,1, [7]⟩⟩] rfl rfl rfl (fun _ h=>by simp at h;subst h;rfl) (by omega) ?_);clear hp;intro b2 w hp)|((refine gen_build (t:=49) (out:=(jobA b1 b2 (-1)).c) rfl (by kernel_rfl) ?_))|(apply gen_build;exact rfl;exact rfl)))<;>(conv=>whnf)))
 have hpay:PayAt w.heap.size w (jobA b1 b2 (-1)).pay:=⟨hp.row (j:=1) rfl,fun t ht=>by simp [jobA] at ht;subst ht;exact hp.row (j:=2) rfl⟩
 refine cl_of (due_any hpay rfl 5 1 (by omega)) ?_
 rintro e w (⟨hd,_,_⟩|⟨n,t,s,hd,ht,hs,rfl,hm⟩)
 ·simp [dueN,tierAt,jobA] at hd
 obtain rfl:n=0:=by simp [dueN,tierAt,jobA] at hd;omega
 simp [jobA] at ht
 subst ht
 replace hs:s.l= [7]:=hs
 replace hp:=hp.add hm
 refine ⟨_,rfl,?_⟩
 ((conv=>whnf);repeat' ((first|((with_reducible refine cn_id ?_);(refine cn rfl ?_))|((with_reducible refine ldn_id ?_);(apply lda_hs hp;(focus repeat' constructor);exact rfl))|((with_reducible refine al_id ?_);(refine al_cel hp ?_;clear hp;intro bb w hp))|((with_reducible refine st_id ?_);first|(apply sta_hs hp;(focus repeat' constructor);exact rfl;exact rfl;clear hp;intro w hp;(try dsimp only [List.set] at hp))|(apply st_hs hp;(focus repeat' constructor);exact rfl;exact rfl;clear hp;intro w hp;(try dsimp only [List.set] at hp))))<;>(conv=>whnf)))
 have hpay:PayAt w.heap.size w (jobA b1 b2 0).pay:=⟨hp.row (j:=3) rfl,fun t ht=>by simp [jobA] at ht;subst ht;exact hp.row (j:=4) rfl⟩
 refine cl_of (due_any (j:=jobA b1 b2 0) hpay rfl 9 1 (by omega)) ?_
 rintro e w (⟨_,rfl,hc⟩|⟨n,t,s,hd,ht,hs,rfl,hm⟩)
 rotate_left
 ·simp [dueN,tierAt,jobA] at hd
 replace hp:=hp.call0 hc
 refine ⟨_,rfl,?_⟩
 ((conv=>whnf);repeat' ((first|((with_reducible refine br_id ?_);first|(with_reducible refine br_t ?_)|(with_reducible refine br_f ?_)|((with_reducible refine br_eq (fun hx=>?_) (fun hx=>?_))<;>(try (exfalso;first|omega|contradiction)))|((with_reducible refine br_s (fun hx=>?_) (fun hx=>?_))<;>(try (exfalso;first|omega|contradiction))))|((with_reducible refine cn_id ?_);(refine cn rfl ?_))|((with_reducible refine ld_id ?_);(apply ld_hs hp;(focus repeat' constructor);exact rfl))|((with_reducible refine al_id ?_);(refine al_cel hp ?_;clear hp;intro bb w hp))|((with_reducible refine st_id ?_);(apply sta_hs hp;(focus repeat' constructor);exact rfl;exact rfl;clear hp;intro w hp;(try dsimp only [List.set] at hp)))|((with_reducible refine gen_id ?_);first|((refine gen_b2s rfl (hp.row (j:=2) rfl) u2 Tryz.underlying5 Tryz.underlying9 rfl ?_))|((refine gen_streq rfl (b:= [7]) rfl rfl (.inl rfl) ?_))))<;>(conv=>whnf)))
 all_goals first
  |exact ps_val (v':= .bool true) rfl ⟨rfl,hp.chg⟩
  |exact absurd rfl hx
  |(exfalso;simp [hs] at hx;done)
end Go.Proofs.YteabebmlclgakaaGreat
/- SubP: lists of submissions, their bytes told; the document's comparison. No condition. -/
namespace Go.Proofs.YteabebmlclgakaaGreat
open Go.RowKit
set_option maxRecDepth 100000
set_option maxHeartbeats 2000000
structure SubP where
 key:Key
 breach:Id
 height:UInt32
 tier:Int
 bytes:List UInt8
 deriving DecidableEq
abbrev Sub.p (s:Sub):SubP:=⟨s.key,s.breach,s.height,s.tier,s.tx.l⟩
theorem el_sub:ElT Tryz.prog 60 69 37 80:=elt_of (z:=Sub.z.v) Tryz.underlying60 (by kernel_rfl) rfl (by omega)
theorem sub_one {l:List Sub}:∀x∈l,∀u∈Sub.c x,u.oneCell'=true:=fun x _ u hu=>List.all_eq_true.1 (show (Sub.c x).all Value.oneCell'=true from rfl) u hu
structure SubsAt (B:Nat) (w:World) (l:Sl Sub):Prop where
 row:SlAt B w Sub.c 37 l
 tx:∀x∈l.l,SlAt B w u8L 1 x.tx
abbrev stxR (s:Sub):Res:=rowR 5 1 u8L s.tx
abbrev subRs (s:Sl Sub):List Res:=rowR 69 37 Sub.c s::s.l.map stxR
theorem subRs_at {w:World} {s:Sl Sub} (h:(star (subRs s)).ok w):SubsAt w.heap.size w s:=by
 have hp:=Hp.open h
 exact ⟨hp.row (j:=0) rfl,fun b hb=>rowR_at (e:=5) (hp.ok (stxR b) (List.mem_cons_of_mem _ (List.mem_map_of_mem hb)))⟩
end Go.Proofs.YteabebmlclgakaaGreat
/- SendP: what is sent out of jobs, and what is live behind it. No program in sight. -/
namespace Go.Proofs.YteabebmlclgakaaGreat
open Go.RowKit
set_option maxRecDepth 100000
set_option maxHeartbeats 2000000
def dueP (j:JobP) (ht:UInt32) (step:Int):Option Nat:=
 if j.mined.toNat≠0∨j.tiers.length=0∨(tierAt j.height.toNat ht.toNat step j.tiers.length:Int)=j.live then none else some (tierAt j.height.toNat ht.toNat step j.tiers.length)
theorem dueN_p (j:Job) (ht:UInt32) (step:Int):dueN j ht step=dueP j.p ht step:=by
 unfold dueN dueP Job.p
 simp only [List.length_map]
def subO (ht:UInt32) (step:Int) (j:JobP):Option SubP:=match dueP j ht step with
 |none=>none
 |some n=>match j.tiers[n]? with
  |none=>none
  |some t=>some ⟨j.key,j.breach,ht,n,t.2⟩
def sentJ (ht:UInt32) (step:Int) (j:JobP):JobP:=match dueP j ht step with
 |none=>j
 |some n=>{j with live:=n}
def subsP (ht:UInt32) (step:Int) (l:List JobP):List SubP:=l.filterMap (subO ht step)
def sentP (ht:UInt32) (step:Int) (l:List JobP):List JobP:=l.map (sentJ ht step)
theorem dueP_lt {j:JobP} {ht:UInt32} {step:Int} {n:Nat} (h:dueP j ht step=some n):n < j.tiers.length∧j.mined.toNat=0∧n=tierAt j.height.toNat ht.toNat step j.tiers.length:=by
 unfold dueP at h
 split at h
 ·cases h
 ·cases h
  exact ⟨tierAt_lt (by omega),by omega,rfl⟩
theorem dueP_sent (j:JobP) (ht:UInt32) (step:Int):dueP (sentJ ht step j) ht step=none:=by
 unfold sentJ
 cases h:dueP j ht step with
 |none=>exact h
 |some n=>
  obtain ⟨h1,h2,h3⟩:=dueP_lt h
  unfold dueP
  exact if_pos (.inr (.inr (by show (tierAt j.height.toNat ht.toNat step j.tiers.length:Int)=(n:Int);rw [h3])))
theorem subO_none {j:JobP} {ht:UInt32} {step:Int} (h:dueP j ht step=none):subO ht step j=none:=by unfold subO;rw [h]
theorem subO_some {j:JobP} {ht:UInt32} {step:Int} {n:Nat} {t:UInt32×List UInt8} (h:dueP j ht step=some n) (ht':j.tiers[n]? =some t):subO ht step j=some ⟨j.key,j.breach,ht,n,t.2⟩:=by unfold subO;rw [h];dsimp only;rw [ht']
def sentE (ht:UInt32) (step:Int) (a:Key×EntB):Key×EntB:=match dueN a.2.job ht step with
 |none=>a
 |some n=>setP a n
theorem sentE_key (ht:UInt32) (step:Int) (a:Key×EntB):(sentE ht step a).1=a.1:=by unfold sentE;split<;>rfl
theorem sentE_p (ht:UInt32) (step:Int) (a:Key×EntB):(sentE ht step a).2.job.p=sentJ ht step a.2.job.p:=by
 unfold sentE sentJ
 rw [dueN_p]
 cases dueP a.2.job.p ht step<;>rfl
def sendL (ht:UInt32) (step:Int) (l:List (Key×EntB)) (i:Nat):List (Key×EntB):=(l.take i).map (sentE ht step)++l.drop i
theorem sendL_zero (ht:UInt32) (step:Int) (l:List (Key×EntB)):sendL ht step l 0=l:=by simp [sendL]
theorem sendL_all {ht:UInt32} {step:Int} {l:List (Key×EntB)} {i:Nat} (h:l.length≤i):sendL ht step l i=l.map (sentE ht step):=by unfold sendL;rw [List.take_of_length_le h,List.drop_of_length_le h,List.append_nil]
theorem sendL_keys (ht:UInt32) (step:Int) (l:List (Key×EntB)) (i:Nat):(sendL ht step l i).map (·.1)=l.map (·.1):=by
 unfold sendL
 have h1:(l.take i).map ((fun x:Key×EntB=>x.1)∘sentE ht step)=(l.take i).map (·.1):=List.map_congr_left fun a _=>sentE_key ht step a
 rw [List.map_append,List.map_map,h1,←List.map_append,List.take_append_drop]
theorem sendL_at {ht:UInt32} {step:Int} {l:List (Key×EntB)} {i:Nat} {a:Key×EntB} (h:l[i]? =some a):(sendL ht step l i)[i]? =some a:=by
 have hl:=(List.getElem?_eq_some_iff.1 h).1
 unfold sendL
 rw [List.getElem?_append_right (by rw [List.length_map,List.length_take];omega),List.length_map,List.length_take,Nat.min_eq_left (by omega),Nat.sub_self,List.getElem?_drop,Nat.add_zero]
 exact h
theorem sendL_set {ht:UInt32} {step:Int} {l:List (Key×EntB)} {i:Nat} {a:Key×EntB} (h:l[i]? =some a):(sendL ht step l i).set i (sentE ht step a)=sendL ht step l (i+1):=by
 have hl:=(List.getElem?_eq_some_iff.1 h).1
 unfold sendL
 rw [List.set_append_right _ _ (by rw [List.length_map,List.length_take];omega),List.length_map,List.length_take,Nat.min_eq_left (by omega),Nat.sub_self,List.take_add_one,h,List.map_append,List.append_assoc]
 congr 1
 rw [List.drop_eq_getElem_cons hl]
 rfl
theorem sendL_none {ht:UInt32} {step:Int} {l:List (Key×EntB)} {i:Nat} {a:Key×EntB} (h:l[i]? =some a) (hd:dueN a.2.job ht step=none):sendL ht step l (i+1)=sendL ht step l i:=by
 rw [←sendL_set h,show sentE ht step a=a by unfold sentE;rw [hd]]
 exact set_sameR (sendL_at h)
theorem sendL_live {ht:UInt32} {step:Int} {l:List (Key×EntB)} {i:Nat} {a:Key×EntB} {n:Nat} (hn:(l.map (·.1)).Nodup) (h:l[i]? =some a) (hd:dueN a.2.job ht step=some n):liveE (sendL ht step l i) a.1 n=true∧liveL (sendL ht step l i) a.1 n=sendL ht step l (i+1):=by
 have hn':((sendL ht step l i).map (·.1)).Nodup:=by rw [sendL_keys];exact hn
 have hat:=sendL_at (ht:=ht) (step:=step) h
 have hlk:=lku_nd hn' (List.mem_of_getElem? hat)
 have hd':=hd
 rw [dueN_p] at hd'
 obtain ⟨h1,h2,h3⟩:=dueP_lt hd'
 have hl:a.2.job.p.tiers.length=a.2.job.pay.l.length:=List.length_map ..
 have h2':a.2.job.mined.toNat=0:=h2
 have hE:liveE (sendL ht step l i) a.1 n=true:=by
  unfold liveE
  rw [hlk]
  exact decide_eq_true ⟨h2',by omega,by omega⟩
 refine ⟨hE,?_⟩
 unfold liveL
 rw [if_pos hE,←set_upd (f:=fun a=>setP a n) hn' hat,←sendL_set h,show sentE ht step a=setP a n by unfold sentE;rw [hd]]
theorem JtI.map {ord:List Key} {l:List (Key×EntB)} (h:JtI ord l) {f:Key×EntB→Key×EntB} (h1:∀a∈l,(f a).1=a.1∧(f a).2.job.key=a.2.job.key∧(f a).2.ids=a.2.ids∧(f a).2.job.pay=a.2.job.pay∧rightJ (f a).2.job=true):JtI ord (l.map f):=by
 have hk:(l.map f).map (·.1)=l.map (·.1):=by
  rw [List.map_map]
  exact List.map_congr_left fun a ha=>(h1 a ha).1
 refine ⟨by rw [hk];exact h.ord,by rw [hk];exact h.nd,?_,?_,?_⟩
 all_goals
  intro p hp
  obtain ⟨a,ha,rfl⟩:=List.mem_map.1 hp
  obtain ⟨g1,g2,g3,g4,g5⟩:=h1 a ha
 ·rw [g2,g1];exact h.key a ha
 ·exact g5
 ·rw [g3,g4];exact h.ids a ha
theorem rightJ_live {j:Job} {t:Int} (h:rightJ j=true) (h1: -1≤t) (h2:t < (j.pay.l.length:Int)) (h3:j.mined.toNat=0∨t= -1):rightJ {j with live:=t}=true:=by
 unfold rightJ at h ⊢
 rw [Bool.and_eq_true,decide_eq_true_eq] at h ⊢
 exact ⟨h.1,h.2.1,h1,h2,h3⟩
theorem sendL_jti {ord:List Key} {l:List (Key×EntB)} (h:JtI ord l) (ht:UInt32) (step:Int) (i:Nat):JtI ord (sendL ht step l i):=by
 have hm:∀p∈sendL ht step l i,∃a∈l,p.1=a.1∧p.2.job.key=a.2.job.key∧p.2.ids=a.2.ids∧p.2.job.pay=a.2.job.pay∧rightJ p.2.job=true:=fun p hp=>by
  rcases List.mem_append.1 hp with hp|hp
  ·obtain ⟨a,ha,rfl⟩:=List.mem_map.1 hp
   have ha:=List.mem_of_mem_take ha
   refine ⟨a,ha,?_⟩
   unfold sentE
   cases hd:dueN a.2.job ht step with
   |none=>exact ⟨rfl,rfl,rfl,rfl,h.right a ha⟩
   |some n=>
    rw [dueN_p] at hd
    obtain ⟨h1,h2,_⟩:=dueP_lt hd
    have hl:a.2.job.p.tiers.length=a.2.job.pay.l.length:=List.length_map ..
    exact ⟨rfl,rfl,rfl,rfl,rightJ_live (h.right a ha) (by omega) (by omega) (.inl h2)⟩
  ·have hp:=List.mem_of_mem_drop hp
   exact ⟨p,hp,rfl,rfl,rfl,rfl,h.right p hp⟩
 refine ⟨by rw [sendL_keys];exact h.ord,by rw [sendL_keys];exact h.nd,fun p hp=>?_,fun p hp=>?_,fun p hp=>?_⟩
 all_goals obtain ⟨a,ha,g1,g2,g3,g4,g5⟩:=hm p hp
 ·rw [g2,g1];exact h.key a ha
 ·exact g5
 ·rw [g3,g4];exact h.ids a ha
theorem sent_jti {ord:List Key} {l:List (Key×EntB)} (h:JtI ord l) (ht:UInt32) (step:Int):JtI ord (l.map (sentE ht step)):=by
 have:=sendL_jti h ht step l.length
 rwa [sendL_all (Nat.le_refl _)] at this
theorem off_jti {ord:List Key} {l:List (Key×EntB)} (h:JtI ord l) (ks:List Key):JtI ord (offL ks l):=h.map fun a ha=>by
 have hr:=h.right a ha
 by_cases hk:a.1∈ks
 ·rw [if_pos hk]
  exact ⟨rfl,rfl,rfl,rfl,rightJ_live hr (by omega) (by omega) (.inr rfl)⟩
 ·rw [if_neg hk]
  exact ⟨rfl,rfl,rfl,rfl,hr⟩
theorem sent_ps (ht:UInt32) (step:Int) (l:List (Key×EntB)):(l.map (sentE ht step)).map (fun p=>p.2.job.p)=sentP ht step (l.map fun p=>p.2.job.p):=by
 unfold sentP
 rw [List.map_map,List.map_map]
 exact List.map_congr_left fun a _=>sentE_p ht step a
theorem duePost_no {j:Job} {ht:UInt32} {step:Int} {w0:World} {e:Ending} {w':World} (h:DuePost j ht step w0 e w') (hd:dueP j.p ht step=none):e= .returned (.tuple #[Sub.z.v, .bool false])∧Chg N0 w0 w':=by
 rcases h with ⟨_,h1,h2⟩|⟨n,t,s,h1,_⟩
 ·exact ⟨h1,h2⟩
 ·rw [dueN_p,hd] at h1
  cases h1
theorem duePost_yes {j:Job} {ht:UInt32} {step:Int} {w0:World} {e:Ending} {w':World} (h:DuePost j ht step w0 e w') {n:Nat} (hd:dueP j.p ht step=some n):∃z:Sub,subO ht step j.p=some z.p∧z.tier=n∧e= .returned (.tuple #[z.v, .bool true])∧Made (stxR z) w0 w':=by
 rcases h with ⟨h1,_⟩|⟨m,t,s,h1,htt,hs,h2,h3⟩
 ·rw [dueN_p,hd] at h1
  cases h1
 ·rw [dueN_p,hd] at h1
  cases h1
  refine ⟨⟨j.key,j.breach,ht,n,s⟩,?_,rfl,h2,h3⟩
  rw [subO_some (t:=tk t) hd (by show (j.pay.l.map tk)[n]? =_;rw [List.getElem?_map,htt];rfl)]
  show some (SubP.mk _ _ _ _ t.tx.l)=some (SubP.mk _ _ _ _ s.l)
  rw [hs]
  rfl
end Go.Proofs.YteabebmlclgakaaGreat
/- Rf2: ranges over functions whose rounds hand over a resource, and which read what the loop keeps. No condition. -/
namespace Go.Proofs.YteabebmlclgakaaGreat
open Go.RowKit
structure IterG (P:Program) (T:Nat→Prop) (Rd:World→Prop) (gf:Nat) (lb:Array Value) {α β:Type} (enc:α→Array Value) (yR:α→Res) (pr:α→β) (xs:List β) (W0:World):Prop where
 out:∀(l:Nat) (R X:Nat→Res→Prop) (r0:Res),R 0 r0→r0.ok W0→(∀b,r0.dom b→¬T b)→(∀i r W,R i r→r.ok W→Rd W)→
  (∀i x W r,R i r→xs[i]? =some (pr x)→Mut r0 (star [r,yR x]) W0 W→YieldAt Fence.wide 0 P l (enc x) W fun e W'=>
   (e= .returned (.bool true)∧∃r',R (i+1) r'∧Mut (star [r,yR x]) r' W W')∨(e= .returned (.bool false)∧∃r',X i r'∧Mut (star [r,yR x]) r' W W'))→
  Calls P gf (#[.func (.yield l) #[] #[]]++lb) W0 fun e W'=>(∃v,e= .returned v)∧((∃r',R xs.length r'∧Mut r0 r' W0 W')∨∃i r',i < xs.length∧X i r'∧Mut r0 r' W0 W')
theorem rf_iterG {P:Program} {n:Nat} {g:Operand} {ps:Array Tmp} {assign body:Code} {xa x:XC} {K:Exit→Env→World→Prop} {e:Env} {S:Nat→Prop} {w0 w:World} {rs:List Res} (hp:Hp S w0 w rs)
  {gf:Nat} {lb:Array Value} {α β:Type} {enc:α→Array Value} {yR:α→Res} {pr:α→β} {xs:List β} {T:Nat→Prop} {Rd:World→Prop} (hfa:flat assign=true) (hfl:flat body=true) (hg:ev n e g= .func (.func gf) #[] lb) (hgf:∀args w,(callFunc gf args).run P w= .ok (.enter gf args) w) (es:α→List (Nat×Value)) (hps:∀y,(enc y).size=ps.size) (hes:∀y,(ps.zip (enc y)).toList=es y)
  (hT:∀b,T b→b < w.heap.size∧∀r∈rs,¬r.dom b) (hit:∀w1,Chg N0 w w1→IterG P T Rd gf lb enc yR pr xs w1) (rsI:Nat→List Res→Prop) (h0:rsI 0 rs) (hrd:∀i q L D o W,rsI i q→(star (lpR L D o q)).ok W→Rd W) (jx:Exit) (hjx:∃c,jumpOf jx=some c) (rsX:Nat→List Res→Prop)
  (hbody:∀i y L D o o' W q,rsI i q→xs[i]? =some (pr y)→Chg S w0 W→(∀b,(star [star (lpR L D o q),yR y]).dom b→S b∨w0.heap.size≤b)→Hp (star [star (lpR L D o q),yR y]).dom W W (lpR L D o q++ [yR y])→
   xa (kAsg L o o' (x (kBody (fun W'=>∃q',rsI (i+1) q'∧Hp (star [star (lpR L D o q),yR y]).dom W W' (lpR L D o' q')) (fun ex W'=>ex=jx∧∃q',rsX i q'∧Hp (star [star (lpR L D o q),yR y]).dom W W' (lpR L D o' q'))))) (eatL (es y) ⟨e.f, []⟩) W)
  (hdone:∀L D o W q,rsI xs.length q→Hp S w0 W (lpR L D o q)→K .normal ⟨e.f,D::e.ds⟩ W)
  (hstop:∀i L D o W q,i < xs.length→rsX i q→Hp S w0 W (lpR L D o q)→K jx ⟨e.f,D::e.ds⟩ W):Rf P n g ps assign body xa x K e w:=by
 refine ⟨fun hxa hx a hr=>?_⟩
 refine wpIn_rangeFunc fun fn _=>?_
 obtain ⟨rec,hrec⟩:∃rec:LoopState→Option Code→Loop,rec=fun st pe=>{state:=st,pending:=pe,fn,tmps:=a.tmps,params:=ps,assign,body,defers:=w.heap.size}:=⟨_,rfl⟩
 obtain ⟨L,hL⟩:∃L,L=w.heap.size+1:=⟨_,rfl⟩
 obtain ⟨D,hD⟩:∃D,D=w.heap.size:=⟨_,rfl⟩
 obtain ⟨W1,hW1⟩:∃W1,(w.alloc (.deferred (some []))).alloc (.loop (rec .ready none))=W1:=⟨_,rfl⟩
 have hc1:Chg N0 w W1:=by rw [←hW1];exact ((Chg.refl _ _).alloc _).alloc _
 have hp1:Hp S w0 W1 (lpR L D (.loop (rec .ready none)) rs):=by
  rw [hL,hD,←hW1]
  have h1:Hp S w0 (w.alloc (.deferred (some []))) (objR w.heap.size (.deferred (some []))::rs):=hp.new ((Chg.refl _ _).alloc _) (objR_ok.2 (World.alloc_heap_new w _)) fun b hb=>by rw [objR_dom.1 hb];exact Nat.le_refl _
  refine h1.new ((Chg.refl _ _).alloc _) (objR_ok.2 ?_) fun b hb=>by rw [objR_dom.1 hb,World.size_alloc];exact Nat.le_refl _
  have:=World.alloc_heap_new (w.alloc (.deferred (some []))) (.loop (rec .ready none))
  rwa [World.size_alloc] at this
 refine ⟨L, [dmark D],W1,{target:= .fn (.func gf) lb,args:= #[.func (.yield L) #[] #[]]},W1,gf, #[.func (.yield L) #[] #[]]++lb,W1,?_,?_,fun _ _=>trivial,?_,FW_depth,?_⟩
 ·rw [←hW1,hrec,hL,hD];exact run_enterLoop_outer _ _ _ _ _
 ·simp only [resolve,hr.eval,hg]
  simp [go_sem]
 ·simp [invoke,go_sem,hgf]
 ·have hpS:=hp1.fold1
  refine callsFW (Calls.mono ((hit W1 hc1).out L (fun i r=>∃q,rsI i q∧r=star (lpR L D (.loop (rec .ready none)) q)) (fun i r=>∃q,rsX i q∧r=star (lpR L D (.loop (rec .done (jumpOf jx))) q)) (star (lpR L D (.loop (rec .ready none)) rs)) ⟨rs,h0,rfl⟩ (hpS.get (j:=0) rfl) ?_ (by rintro i _ W ⟨q,hq,rfl⟩ hok;exact hrd i q _ _ _ _ hq hok) ?_) ?_)
  ·intro b hb hTb
   obtain ⟨r,hr1,hr2⟩:=star_dom.1 hb
   obtain ⟨h1,h2⟩:=hT b hTb
   rcases List.mem_cons.1 hr1 with rfl|hr1
   ·have:=objR_dom.1 hr2;omega
   rcases List.mem_cons.1 hr1 with rfl|hr1
   ·have:=objR_dom.1 hr2;omega
   exact h2 r hr1 hr2
  ·rintro i y W _ ⟨q,hq,rfl⟩ hy m
   have hok:=star_ok.1 m.ok
   have hLW:W.heap[L]? =some (.loop (rec .ready none)):=objR_ok.1 ((star_ok.1 (hok.1 _ (List.mem_cons_self ..))).1 _ (List.mem_cons_self ..))
   have hrun:=run_yield (P:=P) (args:=enc y) hLW (by rw [hrec];exact hps y)
   obtain ⟨ob,hob⟩:∃ob,ob=Obj.loop {rec .ready none with state:= .busy}:=⟨_,rfl⟩
   have hpW:Hp S w0 W (lpR L D (.loop (rec .ready none)) q++ [yR y]):=by
    have h1:=(hpS.via (j:=0) rfl m)
    have h2:Hp S w0 W [star [star (lpR L D (.loop (rec .ready none)) q),yR y]]:=h1
    exact h2.unfold1.unfold
   have hrel:Rel n (eatL (es y) ⟨e.f, []⟩) {tmps:=(es y).foldl (fun t p=>t.setIfInBounds p.1 p.2) a.tmps,defers:= []}:=eatL_rel _ _ _ _ ⟨rfl,hr.2.1,hr.2.2⟩
   have hact:({tmps:=(ps.zip (enc y)).foldl (fun tmps (p:Tmp×Value)=>tmps.setIfInBounds p.1 p.2) a.tmps,defers:= []}:Act)={tmps:=(es y).foldl (fun t p=>t.setIfInBounds p.1 p.2) a.tmps,defers:= []}:=by
    rw [←hes y,←Array.foldl_toList]
   have hb:=hxa _ _ _ W L hfa (hact▸hrel) (hbody i y L D (.loop (rec .ready none)) ob W q hq hy hpW.chg (fun b hb=>by
    rcases m.dom b hb with h9|h9
    ·exact hpS.own _ (List.mem_cons_self ..) b h9
    ·exact .inr (Nat.le_trans hp1.chg.size h9)) (Hp.open m.ok).unfold)
   refine ⟨fn,_,assign,body,by rw [hrec] at hrun;exact hrun,roundIn_of_wpIn trivial (wpIn_mono (show assign.wpIn (FW (some L)) 0 P _ _ W from hb) ?_)⟩
   rintro ex1 a1 W1' ⟨e1,hr1,hk1⟩
   cases ex1<;>try exact hk1.elim
   obtain ⟨hL1,hk1⟩:=hk1.out
   refine ⟨_,by have:=run_beginRound (P:=P) hL1 (by rw [hrec]);rw [←hob] at this;exact this,?_⟩
   have fin:∀(W3:World) (rs3:List Res) (jump:Option Code),Hp (star [star (lpR L D (.loop (rec .ready none)) q),yR y]).dom W W3 (lpR L D ob rs3)→
     (Instr.endRound L jump).run P W3= .ok (.bool jump.isNone) (W3.putObj L (.loop (rec (if jump.isNone then .ready else .done) jump)))∧
     Mut (star [star (lpR L D (.loop (rec .ready none)) q),yR y]) (star (lpR L D (.loop (rec (if jump.isNone then .ready else .done) jump)) rs3)) W (W3.putObj L (.loop (rec (if jump.isNone then .ready else .done) jump))):=fun W3 rs3 jump h3=>by
    have hl3:W3.heap[L]? =some (.loop {rec .ready none with state:= .busy}):=by rw [←hob];exact objR_ok.1 (h3.get (j:=0) rfl)
    have hrun3:=run_endRound (P:=P) jump hl3
    have h6:=h3.putObj (j:=0) rfl (.loop (rec (if jump.isNone then .ready else .done) jump))
    refine ⟨by rw [hrun3];simp only [hrec],h6.shut (List.Sublist.refl _)⟩
   refine wpIn_mono (show body.wpIn (FW (some L)) 0 P _ _ _ from hx _ _ _ _ L hfl hr1 hk1) ?_
   rintro ex a3 W3 ⟨e3,hr3,hk3⟩
   cases ex with
   |normal=>
    obtain ⟨q',hq',hk4⟩:=hk3.out
    obtain ⟨h1,h2⟩:=fin W3 _ none hk4
    exact ⟨_,_,h1, .inl ⟨rfl,_,⟨q',hq',rfl⟩,h2⟩⟩
   |ret=>
    obtain ⟨hj,q',hq',hk4⟩:=hk3.out
    subst hj
    obtain ⟨h1,h2⟩:=fin W3 _ (some .ret) hk4
    exact ⟨_,_,h1, .inr ⟨rfl,_,⟨q',hq',rfl⟩,h2⟩⟩
   |exit id=>
    obtain ⟨hj,q',hq',hk4⟩:=hk3.out
    subst hj
    obtain ⟨h1,h2⟩:=fin W3 _ (some (.exit id)) hk4
    exact ⟨_,_,h1, .inr ⟨rfl,_,⟨q',hq',rfl⟩,h2⟩⟩
   |goto t=>
    obtain ⟨hj,q',hq',hk4⟩:=hk3.out
    subst hj
    obtain ⟨h1,h2⟩:=fin W3 _ (some (.goto t)) hk4
    exact ⟨_,_,h1, .inr ⟨rfl,_,⟨q',hq',rfl⟩,h2⟩⟩
   |panic c=>exact hk3.elim
   |outgrown=>exact hk3.elim
  ·rintro e3 W3 ⟨⟨v,rfl⟩,hm⟩
   have hrel:Rel n ⟨e.f,D::e.ds⟩ {a with defers:= [dmark D]++a.defers}:=⟨by simp [hr.1],hr.2.1,hr.2.2⟩
   rcases hm with ⟨_,⟨q,hq,rfl⟩,m⟩|⟨i,_,hi,⟨q,hq,rfl⟩,m⟩
   ·have h1:Hp S w0 W3 [star (lpR L D (.loop (rec .ready none)) q)]:=hpS.via (j:=0) rfl m
    have h2:=h1.unfold1
    have hl3:W3.heap[L]? =some (.loop (rec .ready none)):=objR_ok.1 (h2.get (j:=0) rfl)
    have hpe:(rec .ready none).pending=none:=by rw [hrec]
    refine ⟨none,_,by have:=run_endLoop (P:=P) hl3 (by rw [hrec];simp);rw [hpe] at this;exact this,?_⟩
    exact ⟨_,hrel,hdone _ _ _ _ _ hq (h2.putObj (j:=0) rfl _)⟩
   ·have h1:Hp S w0 W3 [star (lpR L D (.loop (rec .done (jumpOf jx))) q)]:=hpS.via (j:=0) rfl m
    have h2:=h1.unfold1
    have hl3:W3.heap[L]? =some (.loop (rec .done (jumpOf jx))):=objR_ok.1 (h2.get (j:=0) rfl)
    have hpe:(rec .done (jumpOf jx)).pending=jumpOf jx:=by rw [hrec]
    have hend:=run_endLoop (P:=P) hl3 (by rw [hrec];simp)
    have hk:=hstop i _ _ _ _ _ hi hq (h2.putObj (j:=0) rfl (.loop {rec .done (jumpOf jx) with state:= .exhausted}))
    generalize W3.putObj L (.loop {rec .done (jumpOf jx) with state:= .exhausted})=W4 at hend hk
    rw [hpe] at hend
    refine ⟨jumpOf jx,W4,hend,?_⟩
    cases hj:jumpOf jx with
    |none=>
     obtain ⟨c,hc⟩:=hjx
     rw [hj] at hc
     cases hc
    |some c=>exact jump_wp hj hrel hk
end Go.Proofs.YteabebmlclgakaaGreat
