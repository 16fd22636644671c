/- MImprintBytes14: parts of the proof of ImprintBytes: PaySameR, DecP, DecQ, Rf, Met, Flt, Eq, Keys, KeyK. No condition of their own. -/
import Derived.Test.YtpbapnlnheahnaaGreatDoorMImprintBytes13
import Derived.Test.YtpbapnlnheahnaaGreatDoorMImprintBytes12
import Derived.Test.YtpbapnlnheahnaaGreatDoorMImprintBytes4
import Derived.RangeFuncSeq
import Derived.Test.YtpbapnlnheahnaaGreatDoorMImprintBytessSlice
import Derived.Test.YtpbapnlnheahnaaGreatDoorMImprintBytes6
import Derived.DeepKeys3
set_option linter.unusedSimpArgs false
set_option linter.unusedVariables false
namespace Go.Proofs.YtpbapnlnheahnaaGreatDoor
open Go.RowKit
set_option maxRecDepth 100000
set_option maxHeartbeats 2000000
def tk (t:Tier):UInt32×List UInt8:=(t.fee,t.tx.l)
def sameP (p q:Payload):Bool:=decide (p.l.map tk=q.l.map tk)
theorem sameP_ne {p q:Payload} {i:Nat} {x y:Tier} (hx:p.l[i]? =some x) (hy:q.l[i]? =some y) (h:tk x≠tk y):sameP p q=false:=by
 unfold sameP
 rw [decide_eq_false_iff_not]
 intro hh
 have:=congrArg (·[i]?) hh
 simp [hx,hy] at this
 exact h this
theorem sameP_len {p q:Payload} (h:p.l.length≠q.l.length):sameP p q=false:=by
 unfold sameP
 rw [decide_eq_false_iff_not]
 intro hh
 have:=congrArg List.length hh
 simp at this
 exact h this
theorem tk_next {l m:List Tier} {i:Nat} {x y:Tier} (hx:l[i]? =some x) (hy:m[i]? =some y) (h:(l.take i).map tk=(m.take i).map tk) (he:tk x=tk y):(l.take (i+1)).map tk=(m.take (i+1)).map tk:=by
 rw [List.take_add_one,List.take_add_one,hx,hy,List.map_append,List.map_append,h]
 simp [he]
theorem rsamep_any {B:Nat} {w0:World} {p q:Payload} (h:PayAt B w0 p) (k:PayAt B w0 q):Calls Tryz.prog 123 #[p.pv,q.pv] w0 fun e w'=>e= .returned (.bool (sameP p q))∧Chg N0 w0 w':=by
 have hp:=Hp.start (S:=N0) w0
 have hB:∀b,N0 b→B≤b:=fun _ hh=>hh.elim
 have u1:=Tryz.underlying55
 have u2:=Tryz.underlying34
 have hmax:p.l.length≤9223372036854775807:=by have:=h.row.le;have:=h.row.max;simp only [maxLen] at this;omega
 have hmaq:q.l.length≤9223372036854775807:=by have:=k.row.le;have:=k.row.max;simp only [maxLen] at this;omega
 refine calls_x (args:= [_,_]) tabOk Tryz.func123 Tryz.ntmps123 Tryz.results123 rfl (Nat.le_of_ble_eq_true rfl) ?_
 ((conv=>whnf);repeat' ((first|((with_reducible apply br_id);(with_reducible refine br_ne (fun hx=>?_) (fun hx=>?_))<;>(try (exfalso;first|omega|contradiction)))|((with_reducible apply ld_id);apply ld_hs hp;(focus repeat' constructor);exact rfl)|((with_reducible apply al_id);refine al_cel hp ?_;clear hp;intro bb w hp)|((with_reducible apply gen_id);apply gen_len;exact rfl;exact rfl;assumption))<;>(conv=>whnf)))
 ·exact ps_val (v':= .bool false) rfl ⟨by rw [sameP_len (by omega)],hp.chg⟩
 obtain ⟨b3,hb3⟩:∃b,b=bb:=⟨_,rfl⟩
 subst hb3
 obtain ⟨b2,hb2⟩:∃b,b=bb:=⟨_,rfl⟩
 subst hb2
 have hpq:p.l.length=q.l.length:=by omega
 refine lp_inv (α:=Nat) (fun i=> [(2,ptr b2),(3,ptr b3),(5,i64 i)]) (fun i w=>i≤p.l.length∧(p.l.take i).map tk=(q.l.take i).map tk∧Hp N0 w0 w [cel b3 57 #[q.v],cel b2 57 #[p.v]]) (fun i=>p.l.length - i) 0 (by (repeat' (first|exact trivial|(refine ⟨rfl,?_⟩)))) ⟨by omega,by simp,hp⟩ ?_
 clear hp
 rintro i e0 w ⟨hi,hall,hp⟩
 rcases Nat.lt_or_ge i p.l.length with hlt|hge
 ·obtain ⟨b,o,x,hA,hb,hrow,hxx⟩:=h.row.has hlt
  obtain ⟨b',o',y,hA',hb',hrow',hyy⟩:=k.row.has (show i < q.l.length by omega)
  have hmx:=h.tx x (List.mem_of_getElem? hxx)
  have hmy:=k.tx y (List.mem_of_getElem? hyy)
  ((conv=>whnf);repeat' ((first|((with_reducible apply br_id);first|with_reducible refine br_t ?_|with_reducible refine br_f ?_|((with_reducible refine br_dec (fun hx=>?_) (fun hx=>?_))<;>(try (exfalso;first|omega|contradiction)))|((with_reducible refine br_ne (fun hx=>?_) (fun hx=>?_))<;>(try (exfalso;first|omega|contradiction)))|((with_reducible refine br_s (fun hx=>?_) (fun hx=>?_))<;>(try (exfalso;first|omega|contradiction))))|((with_reducible apply ar_id);refine ar_i64 (by omega) ?_)|((with_reducible apply ld_id);first|(refine ld_row hp hB ‹_› ‹_› _ _ rfl ‹_› (by rfl) ?_)|(apply ld_hs hp;(focus repeat' constructor);exact rfl))|((with_reducible apply gen_id);apply gen_len;exact rfl;exact rfl;assumption)|((with_reducible apply dr_id);refine dr_auto tabOk (by kernel_rfl) (by decide+kernel) ?_;(try replace hp:=hp.drew))|((with_reducible apply rd_id);first|(refine rd_ixs rfl rfl ‹_› rfl rfl (by omega) ?_)|(refine rd_b2s rfl (hmx.keep hp.chg hB) u2 Tryz.underlying5 Tryz.underlying9 rfl ?_)|(refine rd_b2s rfl (hmy.keep hp.chg hB) u2 Tryz.underlying5 Tryz.underlying9 rfl ?_)|(refine rd_streq rfl (a:=x.tx.l) (b:=y.tx.l) rfl rfl (.inr rfl) ?_)))<;>(conv=>whnf)))
  ·exact ps_val (v':= .bool false) rfl ⟨by rw [sameP_ne hxx hyy (fun e=>hx (by rw [show x.fee=y.fee from congrArg Prod.fst e]))],hp.chg⟩
  all_goals have hfee:x.fee=y.fee:=UInt32.toNat_inj.1 (by omega)
  ·have hne:x.tx.l≠y.tx.l:=by simpa using hx
   exact ps_val (v':= .bool false) rfl ⟨by rw [sameP_ne hxx hyy (fun e=>hne (congrArg Prod.snd e))],hp.chg⟩
  ·have he:x.tx.l=y.tx.l:=by simpa using hx
   have htk:tk x=tk y:=by unfold tk;rw [hfee,he]
   exact lp_next (i+1) (by omega) (by (repeat' (first|exact trivial|(refine ⟨rfl,?_⟩)))) ⟨by omega,tk_next hxx hyy hall htk,hp⟩
 ·((conv=>whnf);repeat' ((first|((with_reducible apply br_id);(with_reducible refine br_dec (fun hx=>?_) (fun hx=>?_))<;>(try (exfalso;first|omega|contradiction)))|((with_reducible apply ld_id);apply ld_hs hp;(focus repeat' constructor);exact rfl)|((with_reducible apply gen_id);apply gen_len;exact rfl;exact rfl;assumption))<;>(conv=>whnf)))
  rw [List.take_of_length_le hge,List.take_of_length_le (by omega)] at hall
  exact ps_val (v':= .bool true) rfl ⟨by unfold sameP;rw [decide_eq_true hall],hp.chg⟩
abbrev TkV:=UInt32×List UInt8
def feeOf (l:List UInt8):UInt32:=UInt32.ofNat (numV (l.take 4))
def notUp (ts:List TkV) (fee:UInt32):Bool:=match ts.getLast? with
 |some v=>decide (fee.toNat≤v.1.toNat)
 |none=>false
def dec1 (l:List UInt8) (ts:List TkV):Except Int (TkV×List UInt8):=
 if l.length < 4 then .error 2 else
 if notUp ts (feeOf l)=true then .error 4 else
 match l.drop 4 with
 | []=>.error 2
 |n::r=>if n.toNat < 1∨64 < n.toNat then .error 4 else if r.length < n.toNat then .error 2 else .ok ((feeOf l,r.take n.toNat),r.drop n.toNat)
def decA:Nat→List UInt8→List TkV→Except Int (List TkV×List UInt8)
 |0,l,ts=>.ok (ts,l)
 |k+1,l,ts=>match dec1 l ts with
  | .error e=>.error e
  | .ok (t,r)=>decA k r (ts++ [t])
def decE (d:Except Int (List TkV×List UInt8)):List TkV×Int:=match d with
 | .error e=>([],e)
 | .ok (ts,rest)=>if rest= [] then (ts,0) else ([],3)
def dec (l:List UInt8):List TkV×Int:=match l with
 | []=>([],2)
 |m::r=>if m.toNat < 1∨8 < m.toNat then ([],4) else decE (decA m.toNat r [])
def stepF (q:List UInt8) (p:Nat) (ts:List TkV):Option Int:=
 let t:=rdTake q p none 4
 if notUp ts (UInt32.ofNat (numV t.1))=true then t.2.2.or (some 4) else t.2.2
theorem step_ok {q:List UInt8} {p:Nat} (ts:List TkV) (hp:p≤q.length):
  let f2:=stepF q p ts
  let c:=rdCnt q (rdTake q p none 4).2.1 f2 64
  let b:=rdTake q c.2.1 c.2.2 c.1
  match dec1 (q.drop p) ts with
  | .error e=>b.2.2=some e∧(e=2∨e=4)
  | .ok (t,r)=>b.2.2=none∧t=(UInt32.ofNat (numV (rdTake q p none 4).1),b.1)∧r=q.drop b.2.1∧b.2.1≤q.length:=by
 dsimp only
 unfold dec1 stepF
 by_cases h4:(q.drop p).length < 4
 ·rw [if_pos h4]
  have hs:q.length < p+4:=by rw [List.length_drop] at h4;omega
  rw [rdTake_short hs]
  dsimp only
  have hf:(if notUp ts (UInt32.ofNat (numV []))=true then (some (2:Int)).or (some 4) else some 2)=some 2:=by split<;>rfl
  rw [hf]
  have hc:rdCnt q p (some 2) 64=(0,p,some 2):=by
   unfold rdCnt
   rw [rdTake_bad]
  rw [hc]
  dsimp only
  rw [rdTake_bad]
  exact ⟨rfl, .inl rfl⟩
 ·rw [if_neg h4]
  have hl:p+4≤q.length:=by rw [List.length_drop] at h4;omega
  rw [rdTake_yes hl]
  dsimp only
  have hfee:feeOf (q.drop p)=UInt32.ofNat (numV ((q.drop p).take 4)):=rfl
  rw [←hfee]
  by_cases hn:notUp ts (feeOf (q.drop p))=true
  ·rw [if_pos hn,if_pos hn]
   dsimp only [Option.or]
   have hc:rdCnt q (p+4) (some 4) 64=(0,p+4,some 4):=by
    unfold rdCnt
    rw [rdTake_bad]
   rw [hc]
   dsimp only
   rw [rdTake_bad]
   exact ⟨rfl, .inr rfl⟩
  ·rw [if_neg hn,if_neg hn,List.drop_drop]
   rcases hr:q.drop (p+4) with _|⟨n,r⟩
   ·have hs:q.length < p+4+1:=by
     have:=congrArg List.length hr
     rw [List.length_drop] at this
     simp at this
     omega
    have hc:rdCnt q (p+4) none 64=(0,p+4,some 2):=by
     unfold rdCnt
     rw [rdTake_short hs]
    rw [hc]
    dsimp only
    rw [rdTake_bad]
    exact ⟨rfl, .inl rfl⟩
   ·have hlen:r.length+1=q.length - (p+4):=by
     have:=congrArg List.length hr
     rw [List.length_drop] at this
     simpa using this.symm
    have hs:p+4+1≤q.length:=by omega
    have hr2:q.drop (p+4+1)=r:=by rw [←List.drop_drop,hr];rfl
    have hv:numV ((q.drop (p+4)).take 1)=n.toNat:=by rw [hr];simp [numV]
    dsimp only
    by_cases hb:n.toNat < 1∨64 < n.toNat
    ·rw [if_pos hb]
     have hc:rdCnt q (p+4) none 64=(0,p+4+1,some 4):=by
      unfold rdCnt
      rw [rdTake_yes hs]
      dsimp only
      rw [hv,if_neg (by omega)]
     rw [hc]
     dsimp only
     rw [rdTake_bad]
     exact ⟨rfl, .inr rfl⟩
    ·rw [if_neg hb]
     have hc:rdCnt q (p+4) none 64=(n.toNat,p+4+1,none):=by
      unfold rdCnt
      rw [rdTake_yes hs]
      dsimp only
      rw [hv,if_pos (by omega)]
     rw [hc]
     dsimp only
     by_cases hx:r.length < n.toNat
     ·rw [if_pos hx,rdTake_short (by omega)]
      exact ⟨rfl, .inl rfl⟩
     ·rw [if_neg hx,rdTake_yes (by omega)]
      refine ⟨rfl,?_,?_,by show p+4+1+n.toNat≤_;omega⟩
      ·dsimp only
       rw [hr2]
      ·dsimp only
       rw [←List.drop_drop,hr2]
theorem stepF_bad {q:List UInt8} {p:Nat} {ts:List TkV}:∀e,stepF q p ts=some e→e=2∨e=4:=by
 intro e
 unfold stepF
 dsimp only
 have h1:(rdTake q p none 4).2.2=none∨(rdTake q p none 4).2.2=some 2:=by
  unfold rdTake
  split
  ·exact .inl rfl
  ·exact .inr rfl
 rcases h1 with h1|h1<;>rw [h1]<;>split<;>intro hh<;>simp at hh<;>omega
def tkB (t:TkV):List UInt8:=(numB t.1.toNat 4++numB t.2.length 1)++t.2
theorem bytesP_tk (l:List Tier):bytesP l=numB l.length 1++(l.map tk).flatMap tkB:=by
 unfold bytesP
 congr 1
 rw [List.flatMap_map]
 rfl
theorem numB1 (n:Nat):numB n 1= [UInt8.ofNat n]:=by
 unfold numB be8
 simp
theorem numB4 (n:Nat):numB n 4= [UInt8.ofNat (n / 2 ^ 24),UInt8.ofNat (n / 2 ^ 16),UInt8.ofNat (n / 2 ^ 8),UInt8.ofNat n]:=by
 unfold numB be8
 simp
theorem fee_bytes (x0 x1 x2 x3:UInt8) (rest:List UInt8):numB (feeOf (x0::x1::x2::x3::rest)).toNat 4= [x0,x1,x2,x3]:=by
 have l0:=x0.toNat_lt
 have l1:=x1.toNat_lt
 have l2:=x2.toNat_lt
 have l3:=x3.toNat_lt
 have hv:(feeOf (x0::x1::x2::x3::rest)).toNat=((x0.toNat*256+x1.toNat)*256+x2.toNat)*256+x3.toNat:=by
  unfold feeOf
  have:numV ((x0::x1::x2::x3::rest).take 4)=((x0.toNat*256+x1.toNat)*256+x2.toNat)*256+x3.toNat:=by simp [numV]
  rw [this]
  simp
  omega
 rw [hv,numB4]
 have e:∀(a:Nat) (x:UInt8),a % 256=x.toNat→UInt8.ofNat a=x:=fun a x h=>by
  apply UInt8.toNat_inj.1
  simpa using h
 rw [e _ x0 (by omega),e _ x1 (by omega),e _ x2 (by omega),e _ x3 (by omega)]
theorem fee_of_bytes (f:UInt32) (rest:List UInt8):feeOf (numB f.toNat 4++rest)=f:=by
 have hf:=f.toNat_lt
 rw [numB4]
 unfold feeOf
 have:∀a b c d:UInt8,numV (([a,b,c,d]++rest).take 4)=((a.toNat*256+b.toNat)*256+c.toNat)*256+d.toNat:=fun a b c d=>by simp [numV]
 rw [this]
 apply UInt32.toNat_inj.1
 simp
 omega
theorem ofNat_len {n:Nat} (h:n≤64):(UInt8.ofNat n).toNat=n:=by simp;omega
theorem tkB_eq (t:TkV) (r:List UInt8):tkB t++r=numB t.1.toNat 4++(UInt8.ofNat t.2.length::(t.2++r)):=by
 unfold tkB
 rw [numB1]
 simp
theorem drop4 (f:Nat) (r:List UInt8):(numB f 4++r).drop 4=r:=by
 rw [List.drop_left' (numB_len _ _ (by omega))]
theorem dec1_ok {l r:List UInt8} {ts:List TkV} {t:TkV} (h:dec1 l ts= .ok (t,r)):l=tkB t++r∧1≤t.2.length∧t.2.length≤64∧notUp ts t.1=false:=by
 unfold dec1 at h
 split at h
 ·cases h
 rename_i h4
 split at h
 ·cases h
 rename_i hu
 split at h
 ·cases h
 rename_i n r' hr
 split at h
 ·cases h
 rename_i hb
 split at h
 ·cases h
 rename_i hs
 simp only [Except.ok.injEq,Prod.mk.injEq] at h
 obtain ⟨rfl,rfl⟩:=h
 rcases l with _|⟨x0,_|⟨x1,_|⟨x2,_|⟨x3,rest⟩⟩⟩⟩
 ·simp at h4
 ·simp at h4
 ·simp at h4
 ·simp at h4
 have hr':rest=n::r':=hr
 subst hr'
 have hl:(r'.take n.toNat).length=n.toNat:=by rw [List.length_take];omega
 refine ⟨?_,by show 1≤(r'.take n.toNat).length;omega,by show (r'.take n.toNat).length≤64;omega,by simpa using hu⟩
 rw [tkB_eq]
 show _=numB (feeOf _).toNat 4++(UInt8.ofNat (r'.take n.toNat).length::(r'.take n.toNat++r'.drop n.toNat))
 rw [fee_bytes,hl,List.take_append_drop]
 have:UInt8.ofNat n.toNat=n:=by simp
 rw [this]
 rfl
theorem dec1_mk {ts:List TkV} {t:TkV} (r:List UInt8) (h1:1≤t.2.length) (h2:t.2.length≤64) (hu:notUp ts t.1=false):dec1 (tkB t++r) ts= .ok (t,r):=by
 rw [tkB_eq]
 unfold dec1
 rw [if_neg (by rw [List.length_append,numB_len _ _ (by omega)];omega),fee_of_bytes,hu,if_neg (by simp),drop4]
 dsimp only
 rw [ofNat_len h2,if_neg (by omega),if_neg (by rw [List.length_append];omega),List.take_left,List.drop_left]
def allOk (ts:List TkV):Prop:=∀(i:Nat) t,ts[i]? =some t→(1≤t.2.length∧t.2.length≤64)∧∀(k:Nat) s,i=k+1→ts[k]? =some s→s.1.toNat < t.1.toNat
theorem notUp_iff {ts:List TkV} {f:UInt32}:notUp ts f=false↔∀(k:Nat) s,ts.length=k+1→ts[k]? =some s→s.1.toNat < f.toNat:=by
 unfold notUp
 rw [List.getLast?_eq_getElem?]
 constructor
 ·intro h k s hk hs
  rw [hk,Nat.add_sub_cancel,hs] at h
  simpa using h
 ·intro h
  split
  ·rename_i v hv
   have hlt:=(List.getElem?_eq_some_iff.1 hv).1
   have:=h (ts.length - 1) v (by omega) hv
   simpa using this
  ·rfl
theorem allOk_snoc {ts:List TkV} {t:TkV}:allOk (ts++ [t])↔allOk ts∧(1≤t.2.length∧t.2.length≤64)∧notUp ts t.1=false:=by
 rw [notUp_iff]
 constructor
 ·intro h
  refine ⟨fun i u hu=>?_,?_,fun k s hk hs=>?_⟩
  ·have hi:=(List.getElem?_eq_some_iff.1 hu).1
   obtain ⟨h1,h2⟩:=h i u (by rw [List.getElem?_append_left hi];exact hu)
   refine ⟨h1,fun k s hk hs=>h2 k s hk ?_⟩
   rw [List.getElem?_append_left (by omega)]
   exact hs
  ·exact (h ts.length t (by simp)).1
  ·have hi:=(List.getElem?_eq_some_iff.1 hs).1
   exact (h ts.length t (by simp)).2 k s hk (by rw [List.getElem?_append_left hi];exact hs)
 ·rintro ⟨h1,h2,h3⟩ i u hu
  by_cases hi:i < ts.length
  ·rw [List.getElem?_append_left hi] at hu
   obtain ⟨g1,g2⟩:=h1 i u hu
   refine ⟨g1,fun k s hk hs=>g2 k s hk ?_⟩
   rwa [List.getElem?_append_left (by omega)] at hs
  ·have hl:=(List.getElem?_eq_some_iff.1 hu).1
   rw [List.length_append,List.length_singleton] at hl
   have hi2:i=ts.length:=by omega
   subst hi2
   simp at hu
   subst hu
   refine ⟨h2,fun k s hk hs=>h3 k s hk ?_⟩
   rwa [List.getElem?_append_left (by omega)] at hs
theorem allOk_nil:allOk []:=fun i t h=>by simp at h
theorem allOk_left {ts us:List TkV} (h:allOk (ts++us)):allOk ts:=fun i t ht=>by
 have hi:=(List.getElem?_eq_some_iff.1 ht).1
 obtain ⟨h1,h2⟩:=h i t (by rw [List.getElem?_append_left hi];exact ht)
 exact ⟨h1,fun k s hk hs=>h2 k s hk (by rw [List.getElem?_append_left (by omega)];exact hs)⟩
theorem decA_ok:∀(k:Nat) {l rest:List UInt8} {ts ts':List TkV},allOk ts→decA k l ts= .ok (ts',rest)→allOk ts'∧ts'.length=ts.length+k∧ts.flatMap tkB++l=ts'.flatMap tkB++rest
 |0,l,rest,ts,ts',ha,h=>by
  simp only [decA,Except.ok.injEq,Prod.mk.injEq] at h
  obtain ⟨rfl,rfl⟩:=h
  exact ⟨ha,rfl,rfl⟩
 |k+1,l,rest,ts,ts',ha,h=>by
  unfold decA at h
  split at h
  ·cases h
  ·rename_i t r hd
   obtain ⟨h1,h2,h3,h4⟩:=dec1_ok hd
   obtain ⟨g1,g2,g3⟩:=decA_ok k (allOk_snoc.2 ⟨ha,⟨h2,h3⟩,h4⟩) h
   refine ⟨g1,by rw [g2,List.length_append];simp;omega,?_⟩
   rw [←g3,h1]
   simp
theorem decA_mk:∀(us:List TkV) {ts:List TkV} (r:List UInt8),allOk (ts++us)→decA us.length (us.flatMap tkB++r) ts= .ok (ts++us,r)
 | [],ts,r,_=>by simp [decA]
 |t::us,ts,r,h=>by
  have h1:allOk ((ts++ [t])++us):=by simpa using h
  obtain ⟨_,h2,h3⟩:=allOk_snoc.1 (allOk_left h1)
  have ih:=decA_mk us r h1
  rw [List.length_cons,List.flatMap_cons,List.append_assoc]
  unfold decA
  rw [dec1_mk _ h2.1 h2.2 h3]
  dsimp only
  rw [ih]
  simp
theorem rightP_iff {p:Payload}:rightP p=true↔(1≤p.l.length∧p.l.length≤8)∧allOk (p.l.map tk):=by
 unfold rightP allOk
 rw [Bool.and_eq_true,List.all_eq_true,decide_eq_true_eq]
 refine and_congr Iff.rfl ⟨fun h i u hu=>?_,fun h i hi=>?_⟩
 ·rw [List.getElem?_map] at hu
  obtain ⟨t,ht,rfl⟩:=Option.map_eq_some_iff.1 hu
  have h1:=h i (List.mem_range.2 (List.getElem?_eq_some_iff.1 ht).1)
  unfold tierOk at h1
  rw [ht] at h1
  simp only [Bool.and_eq_true,decide_eq_true_eq] at h1
  refine ⟨h1.1,fun k s hk hs=>?_⟩
  rw [List.getElem?_map] at hs
  obtain ⟨y,hy,rfl⟩:=Option.map_eq_some_iff.1 hs
  subst hk
  have h2:=h1.2
  dsimp only at h2
  rw [hy] at h2
  exact of_decide_eq_true h2
 ·have hlt:=List.mem_range.1 hi
  have ht:=List.getElem?_eq_getElem hlt
  obtain ⟨h1,h2⟩:=h i (tk p.l[i]) (by rw [List.getElem?_map,ht];rfl)
  unfold tierOk
  rw [ht]
  dsimp only
  rw [Bool.and_eq_true,decide_eq_true_eq]
  refine ⟨h1,?_⟩
  cases i with
  |zero=>rfl
  |succ k=>
   dsimp only
   have hk:=List.getElem?_eq_getElem (show k < p.l.length by omega)
   rw [hk]
   exact decide_eq_true (h2 k (tk p.l[k]) rfl (by rw [List.getElem?_map,hk];rfl))
theorem dec_ok {l:List UInt8} {p:Payload} (h:(dec l).2=0) (hp:p.l.map tk=(dec l).1):rightP p=true∧bytesP p.l=l:=by
 rw [rightP_iff,bytesP_tk,hp]
 have hlen:p.l.length=(dec l).1.length:=by rw [←hp,List.length_map]
 rw [hlen]
 rcases l with _|⟨m,r⟩
 ·simp [dec] at h
 ·have e:dec (m::r)=if m.toNat < 1∨8 < m.toNat then ([],4) else decE (decA m.toNat r []):=rfl
  rw [e] at h ⊢
  by_cases hm:m.toNat < 1∨8 < m.toNat
  ·rw [if_pos hm] at h;cases h
  ·rw [if_neg hm] at h ⊢
   unfold decE at h ⊢
   rcases hd:decA m.toNat r [] with e|⟨ts,rest⟩
   ·rw [hd] at h
    dsimp only at h
    subst h
    exfalso
    have key:∀(k:Nat) (l:List UInt8) (ts:List TkV),decA k l ts≠ .error 0:=by
     intro k
     induction k with
     |zero=>intro l ts hh;simp [decA] at hh
     |succ k ih=>
      intro l ts hh
      unfold decA at hh
      split at hh
      ·rename_i e he
       simp at hh
       subst hh
       unfold dec1 at he
       repeat' split at he
       all_goals simp at he
      ·exact ih _ _ hh
    exact key _ _ _ hd
   ·rw [hd] at h
    dsimp only at h ⊢
    by_cases hr:rest= []
    ·rw [if_pos hr]
     obtain ⟨g1,g2,g3⟩:=decA_ok _ allOk_nil hd
     subst hr
     simp only [List.length_nil,Nat.zero_add] at g2
     dsimp only
     refine ⟨⟨by omega,g1⟩,?_⟩
     rw [g2,numB1]
     have:UInt8.ofNat m.toNat=m:=by simp
     rw [this]
     simpa using g3.symm
    ·rw [if_neg hr] at h;cases h
theorem dec_bytes {p:Payload} (h:rightP p=true):dec (bytesP p.l)=(p.l.map tk,0):=by
 obtain ⟨⟨h1,h2⟩,h3⟩:=rightP_iff.1 h
 rw [bytesP_tk,numB1]
 show dec (UInt8.ofNat p.l.length::(p.l.map tk).flatMap tkB)=_
 unfold dec
 dsimp only
 rw [ofNat_len (by omega),if_neg (by omega)]
 have hd:=decA_mk (p.l.map tk) (ts:= []) [] (by simpa using h3)
 rw [List.length_map,List.append_nil] at hd
 rw [hd]
 rfl
def objR (b:Nat) (o:Obj):Res where
 dom x:=x=b
 ok w:=w.heap[b]? =some o
 lt w h x hx:=by subst hx;exact heap_lt h
 loc w w' h hk:=(h b rfl).trans hk
theorem objR_ok {b:Nat} {o:Obj} {w:World}:(objR b o).ok w↔w.heap[b]? =some o:=Iff.rfl
theorem objR_dom {b x:Nat} {o:Obj}:(objR b o).dom x↔x=b:=Iff.rfl
section
variable {P : Program} {S : Nat → Prop} {w0 w w' : World} {rs : List Res} {j : Nat}
theorem Chg.putObj (w:World) (l:Nat) (o:Obj):Chg (fun x=>x=l) w (w.putObj l o):=⟨rfl,rfl,rfl,Nat.le_of_eq World.putObj_size.symm,fun _ _ hn=>World.putObj_heap_other hn⟩
theorem Hp.putObj {b:Nat} {o:Obj} (h:Hp S w0 w rs) (hj:rs[j]? =some (objR b o)) (o':Obj):Hp S w0 (w.putObj b o') (rs.set j (objR b o')):=
 h.mut hj ((Chg.putObj w b o').mono fun _ _ hh=>objR_dom.2 hh) (objR_ok.2 (World.putObj_heap_same (heap_lt (objR_ok.1 (h.get hj))))) fun _ hb=>.inl (objR_dom.2 (objR_dom.1 hb))
theorem td_id {D:Nat} {k:World→Prop} (h:Td w D k):Td w D k:=h
theorem td_hs {D:Nat} {k:World→Prop} (h:Hp S w0 w rs) (j:Nat) (hj:rs[j]? =some (objR D (.deferred (some [])))) (hk:∀w',Hp S w0 w' (rs.set j (objR D (.deferred none)))→k w'):Td w D k:=
 ⟨objR_ok.1 (h.get hj),hk _ (h.putObj hj _)⟩
theorem Hp.fold1 (h:Hp S w0 w rs):Hp S w0 w [star rs]:=by
 have:=h.fold rs.length
 rwa [List.take_length,List.drop_length] at this
theorem Hp.unfold1 (h:Hp S w0 w [star rs]):Hp S w0 w rs:=by
 have:=h.unfold
 rwa [List.append_nil] at this
end
structure Iter (P:Program) (T:Nat→Prop) (gf:Nat) (lb:Array Value) {α:Type} (enc:α→Array Value) (xs:List α) (W0:World):Prop where
 out:∀(l:Nat) (R X:Nat→Res→Prop) (r0:Res),R 0 r0→r0.ok W0→(∀b,r0.dom b→¬T b)→
  (∀i x W r,R i r→xs[i]? =some x→Mut r0 r W0 W→YieldAt Fence.wide 0 P l (enc x) W fun e W'=>
   (e= .returned (.bool true)∧∃r',R (i+1) r'∧Mut r r' W W')∨(e= .returned (.bool false)∧∃r',X i r'∧Mut r r' W W'))→
  Calls P gf (#[.func (.yield l) #[] #[]]++lb) W0 fun e W'=>(∃v,e= .returned v)∧((∃r',R xs.length r'∧Mut r0 r' W0 W')∨∃i r',i < xs.length∧X i r'∧Mut r0 r' W0 W')
theorem yl_of {P:Program} {l:Nat} {args args':Array Value} {w:World} {k:Value→World→Prop} {R:Ending→World→Prop} (h:YieldAt Fence.wide 0 P l args' w R) (ea:args=args') (hk:∀e w',R e w'→∃v,e= .returned v∧k v w'):Yl P l args w k:=by
 subst ea
 obtain ⟨fn,tmps,assign,body,h1,h2⟩:=h
 exact ⟨fn,tmps,assign,body,h1,h2.mono hk⟩
structure Bo (A:World→Prop) (w:World):Prop where
 out:A w
theorem bo {A:World→Prop} {w:World} (h:A w):Bo A w:=⟨h⟩
def kBody (A:World→Prop) (B:Exit→World→Prop):Exit→Env→World→Prop
 | .normal,_,w=>Bo A w
 | .panic _,_,_=>False
 | .outgrown,_,_=>False
 |ex,_,w=>Bo (B ex) w
structure Bg (L:Nat) (o o':Obj) (w:World) (k:World→Prop):Prop where
 out:w.heap[L]? =some o∧k (w.putObj L o')
theorem bg_hs {S:Nat→Prop} {w0 w:World} {rs:List Res} {L:Nat} {o o':Obj} {k:World→Prop} (h:Hp S w0 w rs) (j:Nat) (hj:rs[j]? =some (objR L o)) (hk:∀w',Hp S w0 w' (rs.set j (objR L o'))→k w'):Bg L o o' w k:=⟨objR_ok.1 (h.get hj),hk _ (h.putObj hj _)⟩
theorem bg_id {L:Nat} {o o':Obj} {w:World} {k:World→Prop} (h:Bg L o o' w k):Bg L o o' w k:=h
def kAsg (L:Nat) (o o':Obj) (k:Env→World→Prop):Exit→Env→World→Prop
 | .normal,e,w=>Bg L o o' w (k e)
 |_,_,_=>False
abbrev lpR (L D:Nat) (o:Obj) (rs:List Res):List Res:=objR L o::objR D (.deferred (some []))::rs
noncomputable def eatL (l:List (Nat×Value)) (e:Env):Env:=List.rec (motive:=fun _=>Env→Env) (fun e=>e) (fun p _ ih e=>ih (eup e (some p.1) p.2)) l e
theorem eatL_rel {n:Nat}:∀(l:List (Nat×Value)) (e:Env) (tmps:Array Value) (ds:List Deferred),Rel n e {tmps:=tmps,defers:=ds}→Rel n (eatL l e) {tmps:=l.foldl (fun t p=>t.setIfInBounds p.1 p.2) tmps,defers:=ds}
 | [],e,tmps,ds,h=>h
 |(d,v)::r,e,tmps,ds,h=>eatL_rel r (eup e (some d) v) _ ds (h.put (some d) v)
def jumpOf:Exit→Option Code
 | .ret=>some .ret
 | .exit id=>some (.exit id)
 | .goto t=>some (.goto t)
 |_=>none
theorem jump_wp {P:Program} {n:Nat} {K:Exit→Env→World→Prop} {ex:Exit} {c:Code} (hc:jumpOf ex=some c) {e:Env} {a:Act} {w:World} (hr:Rel n e a) (h:K ex e w):c.wpIn (FW none) 0 P (QX n K) a w:=by
 cases ex<;>simp [jumpOf] at hc<;>subst hc
 ·exact wpIn_exit ⟨e,hr,h⟩
 ·exact wpIn_goto ⟨e,hr,h⟩
 ·exact wpIn_ret ⟨e,hr,h⟩
theorem enters {P:Program} {T:Tb} (hT:TabOk P T) {f:Nat} (h:T.fn.get f=some ()) (args:Array Value) (w:World):(callFunc f args).run P w= .ok (.enter f args) w:=by
 obtain ⟨fn,body,hfn,hbody,hname⟩:=hT.func h
 simp [callFunc,program,Sem.run,hfn,hbody,beq_eq_false_iff_ne.1 hname]
theorem zip1 (p:Tmp) (v:Value):((#[p]:Array Tmp).zip #[v]).toList= [(p,v)]:=by simp
theorem rf_iter {P:Program} {n:Nat} {g:Operand} {ps:Array Tmp} {assign body:Code} {xa x:XC} {K:Exit→Env→World→Prop} {e:Env} {S:Nat→Prop} {w0 w:World} {rs:List Res} (hp:Hp S w0 w rs)
  {gf:Nat} {lb:Array Value} {α:Type} {enc:α→Array Value} {xs:List α} {T:Nat→Prop} (hfa:flat assign=true) (hfl:flat body=true) (hg:ev n e g= .func (.func gf) #[] lb) (hgf:∀args w,(callFunc gf args).run P w= .ok (.enter gf args) w) (es:α→List (Nat×Value)) (hps:∀y,(enc y).size=ps.size) (hes:∀y,(ps.zip (enc y)).toList=es y)
  (hT:∀b,T b→b < w.heap.size∧∀r∈rs,¬r.dom b) (hit:∀w1,Chg N0 w w1→Iter P T gf lb enc xs w1) (rsI:Nat→List Res→Prop) (h0:rsI 0 rs) (jx:Exit) (hjx:∃c,jumpOf jx=some c) (rsX:Nat→List Res→Prop)
  (hbody:∀i y L D o o' W q,rsI i q→xs[i]? =some y→Chg S w0 W→(∀b,(star (lpR L D o q)).dom b→S b∨w0.heap.size≤b)→Hp (star (lpR L D o q)).dom W W (lpR L D o q)→
   xa (kAsg L o o' (x (kBody (fun W'=>∃q',rsI (i+1) q'∧Hp (star (lpR L D o q)).dom W W' (lpR L D o' q')) (fun ex W'=>ex=jx∧∃q',rsX i q'∧Hp (star (lpR L D o q)).dom W W' (lpR L D o' q'))))) (eatL (es y) ⟨e.f, []⟩) W)
  (hdone:∀L D o W q,rsI xs.length q→Hp S w0 W (lpR L D o q)→K .normal ⟨e.f,D::e.ds⟩ W)
  (hstop:∀i L D o W q,i < xs.length→rsX i q→Hp S w0 W (lpR L D o q)→K jx ⟨e.f,D::e.ds⟩ W):Rf P n g ps assign body xa x K e w:=by
 refine ⟨fun hxa hx a hr=>?_⟩
 refine wpIn_rangeFunc fun fn _=>?_
 obtain ⟨rec,hrec⟩:∃rec:LoopState→Option Code→Loop,rec=fun st pe=>{state:=st,pending:=pe,fn,tmps:=a.tmps,params:=ps,assign,body,defers:=w.heap.size}:=⟨_,rfl⟩
 obtain ⟨L,hL⟩:∃L,L=w.heap.size+1:=⟨_,rfl⟩
 obtain ⟨D,hD⟩:∃D,D=w.heap.size:=⟨_,rfl⟩
 obtain ⟨W1,hW1⟩:∃W1,(w.alloc (.deferred (some []))).alloc (.loop (rec .ready none))=W1:=⟨_,rfl⟩
 have hc1:Chg N0 w W1:=by rw [←hW1];exact ((Chg.refl _ _).alloc _).alloc _
 have hp1:Hp S w0 W1 (lpR L D (.loop (rec .ready none)) rs):=by
  rw [hL,hD,←hW1]
  have h1:Hp S w0 (w.alloc (.deferred (some []))) (objR w.heap.size (.deferred (some []))::rs):=hp.new ((Chg.refl _ _).alloc _) (objR_ok.2 (World.alloc_heap_new w _)) fun b hb=>by rw [objR_dom.1 hb];exact Nat.le_refl _
  refine h1.new ((Chg.refl _ _).alloc _) (objR_ok.2 ?_) fun b hb=>by rw [objR_dom.1 hb,World.size_alloc];exact Nat.le_refl _
  have:=World.alloc_heap_new (w.alloc (.deferred (some []))) (.loop (rec .ready none))
  rwa [World.size_alloc] at this
 refine ⟨L, [dmark D],W1,{target:= .fn (.func gf) lb,args:= #[.func (.yield L) #[] #[]]},W1,gf, #[.func (.yield L) #[] #[]]++lb,W1,?_,?_,fun _ _=>trivial,?_,FW_depth,?_⟩
 ·rw [←hW1,hrec,hL,hD];exact run_enterLoop_outer _ _ _ _ _
 ·simp only [resolve,hr.eval,hg]
  simp [go_sem]
 ·simp [invoke,go_sem,hgf]
 ·have hpS:=hp1.fold1
  refine callsFW (Calls.mono ((hit W1 hc1).out L (fun i r=>∃q,rsI i q∧r=star (lpR L D (.loop (rec .ready none)) q)) (fun i r=>∃q,rsX i q∧r=star (lpR L D (.loop (rec .done (jumpOf jx))) q)) (star (lpR L D (.loop (rec .ready none)) rs)) ⟨rs,h0,rfl⟩ (hpS.get (j:=0) rfl) ?_ ?_) ?_)
  ·intro b hb hTb
   obtain ⟨r,hr1,hr2⟩:=star_dom.1 hb
   obtain ⟨h1,h2⟩:=hT b hTb
   rcases List.mem_cons.1 hr1 with rfl|hr1
   ·have:=objR_dom.1 hr2;omega
   rcases List.mem_cons.1 hr1 with rfl|hr1
   ·have:=objR_dom.1 hr2;omega
   exact h2 r hr1 hr2
  ·rintro i y W _ ⟨q,hq,rfl⟩ hy m
   have hok:=star_ok.1 m.ok
   have hLW:W.heap[L]? =some (.loop (rec .ready none)):=objR_ok.1 (hok.1 _ (List.mem_cons_self ..))
   have hrun:=run_yield (P:=P) (args:=enc y) hLW (by rw [hrec];exact hps y)
   obtain ⟨ob,hob⟩:∃ob,ob=Obj.loop {rec .ready none with state:= .busy}:=⟨_,rfl⟩
   have hpW:Hp S w0 W (lpR L D (.loop (rec .ready none)) q):=by
    have h1:=(hpS.via (j:=0) rfl m)
    have h2:Hp S w0 W [star (lpR L D (.loop (rec .ready none)) q)]:=h1
    exact h2.unfold1
   have hrel:Rel n (eatL (es y) ⟨e.f, []⟩) {tmps:=(es y).foldl (fun t p=>t.setIfInBounds p.1 p.2) a.tmps,defers:= []}:=eatL_rel _ _ _ _ ⟨rfl,hr.2.1,hr.2.2⟩
   have hact:({tmps:=(ps.zip (enc y)).foldl (fun tmps (p:Tmp×Value)=>tmps.setIfInBounds p.1 p.2) a.tmps,defers:= []}:Act)={tmps:=(es y).foldl (fun t p=>t.setIfInBounds p.1 p.2) a.tmps,defers:= []}:=by
    rw [←hes y,←Array.foldl_toList]
   have hb:=hxa _ _ _ W L hfa (hact▸hrel) (hbody i y L D (.loop (rec .ready none)) ob W q hq hy hpW.chg (fun b hb=>by
    obtain ⟨r,hr1,hr2⟩:=star_dom.1 hb
    exact hpW.own r hr1 b hr2) (Hp.open m.ok))
   refine ⟨fn,_,assign,body,by rw [hrec] at hrun;exact hrun,roundIn_of_wpIn trivial (wpIn_mono (show assign.wpIn (FW (some L)) 0 P _ _ W from hb) ?_)⟩
   rintro ex1 a1 W1' ⟨e1,hr1,hk1⟩
   cases ex1<;>try exact hk1.elim
   obtain ⟨hL1,hk1⟩:=hk1.out
   refine ⟨_,by have:=run_beginRound (P:=P) hL1 (by rw [hrec]);rw [←hob] at this;exact this,?_⟩
   have fin:∀(W3:World) (rs3:List Res) (jump:Option Code),Hp (star (lpR L D (.loop (rec .ready none)) q)).dom W W3 (lpR L D ob rs3)→
     (Instr.endRound L jump).run P W3= .ok (.bool jump.isNone) (W3.putObj L (.loop (rec (if jump.isNone then .ready else .done) jump)))∧
     Mut (star (lpR L D (.loop (rec .ready none)) q)) (star (lpR L D (.loop (rec (if jump.isNone then .ready else .done) jump)) rs3)) W (W3.putObj L (.loop (rec (if jump.isNone then .ready else .done) jump))):=fun W3 rs3 jump h3=>by
    have hl3:W3.heap[L]? =some (.loop {rec .ready none with state:= .busy}):=by rw [←hob];exact objR_ok.1 (h3.get (j:=0) rfl)
    have hrun3:=run_endRound (P:=P) jump hl3
    have h6:=h3.putObj (j:=0) rfl (.loop (rec (if jump.isNone then .ready else .done) jump))
    refine ⟨by rw [hrun3];simp only [hrec],h6.shut (List.Sublist.refl _)⟩
   refine wpIn_mono (show body.wpIn (FW (some L)) 0 P _ _ _ from hx _ _ _ _ L hfl hr1 hk1) ?_
   rintro ex a3 W3 ⟨e3,hr3,hk3⟩
   cases ex with
   |normal=>
    obtain ⟨q',hq',hk4⟩:=hk3.out
    obtain ⟨h1,h2⟩:=fin W3 _ none hk4
    exact ⟨_,_,h1, .inl ⟨rfl,_,⟨q',hq',rfl⟩,h2⟩⟩
   |ret=>
    obtain ⟨hj,q',hq',hk4⟩:=hk3.out
    subst hj
    obtain ⟨h1,h2⟩:=fin W3 _ (some .ret) hk4
    exact ⟨_,_,h1, .inr ⟨rfl,_,⟨q',hq',rfl⟩,h2⟩⟩
   |exit id=>
    obtain ⟨hj,q',hq',hk4⟩:=hk3.out
    subst hj
    obtain ⟨h1,h2⟩:=fin W3 _ (some (.exit id)) hk4
    exact ⟨_,_,h1, .inr ⟨rfl,_,⟨q',hq',rfl⟩,h2⟩⟩
   |goto t=>
    obtain ⟨hj,q',hq',hk4⟩:=hk3.out
    subst hj
    obtain ⟨h1,h2⟩:=fin W3 _ (some (.goto t)) hk4
    exact ⟨_,_,h1, .inr ⟨rfl,_,⟨q',hq',rfl⟩,h2⟩⟩
   |panic c=>exact hk3.elim
   |outgrown=>exact hk3.elim
  ·rintro e3 W3 ⟨⟨v,rfl⟩,hm⟩
   have hrel:Rel n ⟨e.f,D::e.ds⟩ {a with defers:= [dmark D]++a.defers}:=⟨by simp [hr.1],hr.2.1,hr.2.2⟩
   rcases hm with ⟨_,⟨q,hq,rfl⟩,m⟩|⟨i,_,hi,⟨q,hq,rfl⟩,m⟩
   ·have h1:Hp S w0 W3 [star (lpR L D (.loop (rec .ready none)) q)]:=hpS.via (j:=0) rfl m
    have h2:=h1.unfold1
    have hl3:W3.heap[L]? =some (.loop (rec .ready none)):=objR_ok.1 (h2.get (j:=0) rfl)
    have hpe:(rec .ready none).pending=none:=by rw [hrec]
    refine ⟨none,_,by have:=run_endLoop (P:=P) hl3 (by rw [hrec];simp);rw [hpe] at this;exact this,?_⟩
    exact ⟨_,hrel,hdone _ _ _ _ _ hq (h2.putObj (j:=0) rfl _)⟩
   ·have h1:Hp S w0 W3 [star (lpR L D (.loop (rec .done (jumpOf jx))) q)]:=hpS.via (j:=0) rfl m
    have h2:=h1.unfold1
    have hl3:W3.heap[L]? =some (.loop (rec .done (jumpOf jx))):=objR_ok.1 (h2.get (j:=0) rfl)
    have hpe:(rec .done (jumpOf jx)).pending=jumpOf jx:=by rw [hrec]
    have hend:=run_endLoop (P:=P) hl3 (by rw [hrec];simp)
    have hk:=hstop i _ _ _ _ _ hi hq (h2.putObj (j:=0) rfl (.loop {rec .done (jumpOf jx) with state:= .exhausted}))
    generalize W3.putObj L (.loop {rec .done (jumpOf jx) with state:= .exhausted})=W4 at hend hk
    rw [hpe] at hend
    refine ⟨jumpOf jx,W4,hend,?_⟩
    cases hj:jumpOf jx with
    |none=>
     obtain ⟨c,hc⟩:=hjx
     rw [hj] at hc
     cases hc
    |some c=>exact jump_wp hj hrel hk
theorem Hp.nilRow {ν:Type} {S:Nat→Prop} {w0 w:World} {rs:List Res} (h:Hp S w0 w rs) (et:TypeId) (sz:Nat) (vc:ν→List Value):Hp S w0 w (rowR et sz vc (Sl.nil:Sl ν)::rs):=
 h.new (Chg.refl _ _) (rowR_ok.2 ⟨World.ownsRow_nil w 0 _ _,by simp [Sl.nil]⟩) fun b hb=>by have h1:=rowR_dom.1 hb;cases h1
theorem lp_share {B:Env→World→(Env→World→Prop)→Prop} {G:Prop} (I:Env→World→Prop) (main:(∀e w,I e w→Lp B e w)→G) (tail:∀e w,I e w→Lp B e w):G:=main tail
theorem Hp.pick {S:Nat→Prop} {w0 w:World} {rs rs':List Res} (h:Hp S w0 w rs) (js:List Nat) (hn:js.Nodup) (he:js.map (fun j=>rs[j]?)=rs'.map some):Hp S w0 w rs':=by
 have hl:js.length=rs'.length:=by have:=congrArg List.length he;simpa using this
 have hat:∀a (ha:a < rs'.length),rs[js[a]'(by omega)]? =some rs'[a]:=fun a ha=>by
  have h1:(js.map (fun j=>rs[j]?))[a]? =(rs'.map some)[a]? :=by rw [he]
  rw [List.getElem?_map,List.getElem?_map,List.getElem?_eq_getElem (show a < js.length by omega),List.getElem?_eq_getElem ha] at h1
  exact Option.some.inj h1
 have hm:∀r∈rs',r∈rs:=fun r hr=>by
  obtain ⟨a,ha,rfl⟩:=List.getElem_of_mem hr
  exact List.mem_of_getElem? (hat a ha)
 refine ⟨h.chg,fun r hr=>h.ok r (hm r hr),List.pairwise_iff_getElem.2 fun a b la lb hab x hx hx'=>?_,fun r hr=>h.own r (hm r hr)⟩
 have h1:=hat a la
 have h2:=hat b lb
 have hne:js[a]'(by omega)≠js[b]'(by omega):=fun e=>by
  have:=(List.getElem_inj hn).1 e
  omega
 obtain ⟨l1,e1⟩:=List.getElem?_eq_some_iff.1 h1
 obtain ⟨l2,e2⟩:=List.getElem?_eq_some_iff.1 h2
 have hs:=List.pairwise_iff_getElem.1 h.sep
 rcases Nat.lt_or_gt_of_ne hne with h3|h3
 ·exact hs _ _ l1 l2 h3 x (by rw [e1];exact hx) (by rw [e2];exact hx')
 ·exact hs _ _ l2 l1 h3 x (by rw [e2];exact hx') (by rw [e1];exact hx)
theorem eq_key (x y:Key):EqIs Tryz.prog 54 x.v y.v (decide (x=y)):=eqis_of (fs:=Tryz.prog.fieldsOf 54) (by kernel_rfl) (by kernel_rfl) fun w=>by
 have h0:=eqf_cons (P:=Tryz.prog) (w:=w) (d:=9999) (xs:= #[u32 x.ses,u32 x.seq]) (ys:= #[u32 y.ses,u32 y.seq]) (f:=((Tryz.prog.fieldsOf 54)[0]?).getD default) (by decide+kernel) (part_word (n:=1) (by kernel_rfl) (v:=u32 x.ses) (by kernel_rfl)) (part_word (n:=1) (by kernel_rfl) (v:=u32 y.ses) (by kernel_rfl))
  (run_equalIn_int w 9998 _ .u32 .u32 _ _ (by kernel_rfl)) (eqf_cons (f:=((Tryz.prog.fieldsOf 54)[1]?).getD default) (by decide+kernel) (part_word (n:=1) (by kernel_rfl) (v:=u32 x.seq) (by kernel_rfl)) (part_word (n:=1) (by kernel_rfl) (v:=u32 y.seq) (by kernel_rfl)) (run_equalIn_int w 9998 _ .u32 .u32 _ _ (by kernel_rfl)) eqf_nil)
 rw [u32_eq,u32_eq] at h0
 have e:(decide (x.ses=y.ses) && (decide (x.seq=y.seq) && true))=decide (x=y):=by
  rw [Bool.eq_iff_iff]
  cases x;cases y
  simp
 rw [e] at h0
 exact h0
abbrev mlk {κ ν:Type} [DecidableEq κ] (l:List (κ×ν)) (k:κ):Option ν:=l.lookup k
theorem lookup_none {κ ν:Type} [DecidableEq κ]:∀{l:List (κ×ν)} {x:κ},x∉l.map (·.1)→l.lookup x=none
 | [],_,_=>rfl
 |p::l,x,h=>by
  have h1:¬x=p.1:=fun e=>h (by simp [e])
  have h2:=lookup_none (l:=l) (x:=x) fun hh=>h (List.mem_cons_of_mem _ hh)
  have hb:(x==p.1)=false:=by simpa using h1
  rw [List.lookup_cons,hb]
  exact h2
theorem lookup_mapput {κ ν:Type} [DecidableEq κ] (k:κ) (v:ν) (x:κ):∀l:List (κ×ν),(l.map fun p=>if p.1=k then (k,v) else p).lookup x=if x=k then (if k∈l.map (·.1) then some v else none) else l.lookup x
 | []=>by simp
 |p::l=>by
  have ih:=lookup_mapput k v x l
  rw [List.map_cons,List.lookup_cons,List.lookup_cons]
  by_cases h1:p.1=k
  ·rw [if_pos h1]
   by_cases h2:x=k
   ·simp [h1,h2]
   ·have h3:¬x=p.1:=fun e=>h2 (e.trans h1)
    have hb:(x==p.1)=false:=by simpa using h3
    have hb2:(x==k)=false:=by simpa using h2
    rw [hb,hb2,ih,if_neg h2,if_neg h2]
  ·rw [if_neg h1,ih]
   by_cases h2:x=k
   ·subst h2
    have h3:¬x=p.1:=fun e=>h1 e.symm
    have hb:(x==p.1)=false:=by simpa using h3
    rw [hb,if_pos rfl,if_pos rfl]
    have hi:x∈(p::l).map (·.1)↔x∈l.map (·.1):=by simp [h3]
    by_cases hm:x∈l.map (·.1)
    ·rw [if_pos (hi.2 hm)]
     simp only
     rw [if_pos hm]
    ·rw [if_neg fun hh=>hm (hi.1 hh)]
     simp only
     rw [if_neg hm]
   ·rw [if_neg h2,if_neg h2]
theorem lookup_mput {κ ν:Type} [DecidableEq κ] (l:List (κ×ν)) (k:κ) (v:ν) (x:κ):(mput l k v).lookup x=if x=k then some v else l.lookup x:=by
 unfold mput
 split
 ·rename_i h
  rw [lookup_mapput,if_pos h]
 ·rename_i h
  rw [List.lookup_append]
  by_cases h2:x=k
  ·subst h2
   rw [lookup_none h]
   simp
  ·have:([(k,v)]:List (κ×ν)).lookup x=none:=by simp [h2]
   rw [this]
   simp [h2]
theorem mapM_has {α β:Type} {f:α→Option β}:∀(l:List α),(∀x∈l,∃y,f x=some y)→∃r,l.mapM f=some r
 | [],_=>⟨[],rfl⟩
 |x::l,h=>by
  obtain ⟨y,hy⟩:=h x (by simp)
  obtain ⟨r,hr⟩:=mapM_has l fun z hz=>h z (by simp [hz])
  exact ⟨y::r,by simp [List.mapM_cons,hy,hr]⟩
theorem keyLits_u8s {P:Program} {t e:TypeId} {n d:Nat} (ht:P.underlying t=some (.array n e)) (he:P.underlying e=some (.int .u8)) (hc:P.cellsOf e=1) (hn:P.cellsOf t=n) (l:List UInt8) (hl:l.length=n):∃L,P.keyLits (d+2) t (l.map u8)=some L:=by
 have h1:∃r,((List.range n).mapM fun i=>P.keyLits (d+1) e (((l.map u8).drop (i*P.cellsOf e)).take (P.cellsOf e)))=some r:=mapM_has _ fun i hi=>by
  have hi':i < l.length:=by rw [hl];exact List.mem_range.1 hi
  have h2:((l.map u8).drop (i*P.cellsOf e)).take (P.cellsOf e)= [u8 l[i]]:=by
   rw [hc,Nat.mul_one,List.drop_eq_getElem_cons (by simpa using hi')]
   simp
  have hw:(Lit.int .u8 (l[i].toNat:Int)).wf=true:=by
   have:=l[i].toNat_lt
   simp [Lit.wf,IntKind.min,IntKind.max,IntKind.signed,IntKind.bits]
   omega
  rw [h2]
  exact ⟨[.int .u8 l[i].toNat],by simp [Program.keyLits,he,hw]⟩
 obtain ⟨r,hr⟩:=h1
 refine ⟨r.flatten,?_⟩
 have hlen:(l.map u8).length=P.cellsOf t:=by simp [hl,hn]
 unfold Program.keyLits
 rw [ht]
 cases hcs:l.map u8 with
 |nil=>rw [hcs] at hr hlen;simp only [hlen,if_true,hr,Option.map_some]
 |cons c cs=>rw [hcs] at hr hlen;simp only [hlen,if_true,hr,Option.map_some]
theorem id_law:Maps.Keyed Tryz.prog 48:=Maps.Keyed.of_law (deep_law (m:=3) (by omega) (by kernel_rfl) (by kernel_rfl) (by kernel_rfl))
theorem Id.inj {x y:Id} (h:x.v=y.v):x=y:=by
 have h1:x.c.toArray=y.c.toArray:=by injection h
 rw [←Id.cells,←Id.cells] at h1
 have h2:x.toList.map Extern.Stop.cell=y.toList.map Extern.Stop.cell:=by simpa using h1
 have h3:x.toList=y.toList:=by
  have hinj:∀a b:UInt8,Extern.Stop.cell a=Extern.Stop.cell b→a=b:=fun a b hh=>by
   simp [Extern.Stop.cell] at hh
   exact UInt8.toNat_inj.1 (by omega)
  exact List.map_inj_right hinj |>.1 h2
 exact Vector.toList_inj.1 h3
theorem idK:KEnc Tryz.prog 48 Id.v where
 law:=id_law
 reads x:=by
  obtain ⟨L,hL⟩:=keyLits_u8s (P:=Tryz.prog) (t:=48) (e:=5) (n:=32) (d:=Tryz.prog.types.size - 1) (by kernel_rfl) Tryz.underlying5 (by kernel_rfl) (by kernel_rfl) x.toList (by simp)
  have h1:x.v.cells.toList=x.toList.map u8:=by
   have:=congrArg Array.toList (Id.cells x)
   rw [List.toList_toArray,List.toList_toArray] at this
   exact this.symm
  have h2:Tryz.prog.types.size - 1+2=Tryz.prog.types.size+1:=by kernel_rfl
  rw [h2] at hL
  refine ⟨.string (keyBytes L),?_⟩
  have ht:Tryz.prog.underlying 48=some (.array 32 5):=by kernel_rfl
  have hk:(Tryz.prog.keyType 48 && x.v.formed Tryz.prog 48)=true:=by kernel_rfl
  unfold keyOf
  rw [ht]
  simp only
  rw [if_pos hk,h1,hL]
  rfl
 inj h:=Id.inj h
theorem key_law:Maps.Keyed Tryz.prog 54:=Maps.Keyed.of_law (deep_law (m:=3) (by omega) (by kernel_rfl) (by kernel_rfl) (by kernel_rfl))
theorem keyK:KEnc Tryz.prog 54 Key.v where
 law:=key_law
 reads x:=by
  have h1:∀(x:UInt32) (d:Nat),Tryz.prog.keyLits (d+1) 24 [u32 x]=some [.int .u32 x.toNat]:=fun x d=>by
   have hw:(Lit.int .u32 (x.toNat:Int)).wf=true:=by
    have:=x.toNat_lt
    simp [Lit.wf,IntKind.min,IntKind.max,IntKind.signed,IntKind.bits]
    omega
   simp [Program.keyLits,Tryz.underlying24,hw]
  have hf:(Tryz.prog.fieldsOf 54).toList= [((Tryz.prog.fieldsOf 54)[0]?).getD default,((Tryz.prog.fieldsOf 54)[1]?).getD default]:=by kernel_rfl
  have ht:Tryz.prog.underlying 54=some (.struct (Tryz.prog.fieldsOf 54)):=by kernel_rfl
  have h2:∃L,Tryz.prog.keyLits (Tryz.prog.types.size+1) 54 [u32 x.ses,u32 x.seq]=some L:=by
   obtain ⟨r,hr⟩:=mapM_has (f:=fun f:Field=>Tryz.prog.keyLits (Tryz.prog.types.size) f.type (([u32 x.ses,u32 x.seq].drop f.offset).take (Tryz.prog.cellsOf f.type))) (Tryz.prog.fieldsOf 54).toList fun f hm=>by
    have hsz:Tryz.prog.types.size=(Tryz.prog.types.size - 1)+1:=by kernel_rfl
    rw [hf] at hm
    rcases List.mem_cons.1 hm with rfl|hm
    ·refine ⟨[.int .u32 x.ses.toNat],?_⟩
     rw [hsz,←h1 x.ses (Tryz.prog.types.size - 1)]
     rfl
    ·rcases List.mem_cons.1 hm with rfl|hm
     ·refine ⟨[.int .u32 x.seq.toNat],?_⟩
      rw [hsz,←h1 x.seq (Tryz.prog.types.size - 1)]
      rfl
     ·cases hm
   refine ⟨r.flatten,?_⟩
   unfold Program.keyLits
   rw [ht]
   simp only
   rw [if_pos ⟨by kernel_rfl,by kernel_rfl⟩,hr]
   rfl
  obtain ⟨L,hL⟩:=h2
  refine ⟨.string (keyBytes L),?_⟩
  have hk:(Tryz.prog.keyType 54 && x.v.formed Tryz.prog 54)=true:=by kernel_rfl
  unfold keyOf
  rw [ht]
  simp only
  rw [if_pos hk]
  show (Tryz.prog.keyLits (Tryz.prog.types.size+1) 54 [u32 x.ses,u32 x.seq]).map _=_
  rw [hL]
  rfl
 inj {x y} h:=by
  have h1: #[u32 x.ses,u32 x.seq]= #[u32 y.ses,u32 y.seq]:=by injection h
  obtain ⟨a,b⟩:=x
  obtain ⟨c,d⟩:=y
  simp only [Array.mk.injEq,List.cons.injEq,and_true,Value.int.injEq,true_and] at h1
  have h2:a=c:=UInt32.toNat_inj.1 (by omega)
  have h3:b=d:=UInt32.toNat_inj.1 (by omega)
  rw [h2,h3]
end Go.Proofs.YtpbapnlnheahnaaGreatDoor
