/- MImprintReads13: parts of the proof of ImprintReads: PaySameR, DecP, DecQ, Up, Blob, ElId, BlkT, OpenK, Sess, OpS, HintE, Sta. No condition of their own. -/
import Derived.Test.YtpbapnlnheahnaaGreatDoorMImprintReads12
import Derived.Test.YtpbapnlnheahnaaGreatDoorMImprintReads11
import Derived.Test.YtpbapnlnheahnaaGreatDoorMImprintReads6
import Derived.Test.YtpbapnlnheahnaaGreatDoorRows
import Derived.Test.YtpbapnlnheahnaaGreatDoorMImprintReadssSlice
set_option linter.unusedSimpArgs false
set_option linter.unusedVariables false
namespace Go.Proofs.YtpbapnlnheahnaaGreatDoor
open Go.RowKit
set_option maxRecDepth 100000
set_option maxHeartbeats 2000000
def tk (t:Tier):UInt32×List UInt8:=(t.fee,t.tx.l)
def sameP (p q:Payload):Bool:=decide (p.l.map tk=q.l.map tk)
theorem sameP_ne {p q:Payload} {i:Nat} {x y:Tier} (hx:p.l[i]? =some x) (hy:q.l[i]? =some y) (h:tk x≠tk y):sameP p q=false:=by
 unfold sameP
 rw [decide_eq_false_iff_not]
 intro hh
 have:=congrArg (·[i]?) hh
 simp [hx,hy] at this
 exact h this
theorem sameP_len {p q:Payload} (h:p.l.length≠q.l.length):sameP p q=false:=by
 unfold sameP
 rw [decide_eq_false_iff_not]
 intro hh
 have:=congrArg List.length hh
 simp at this
 exact h this
theorem tk_next {l m:List Tier} {i:Nat} {x y:Tier} (hx:l[i]? =some x) (hy:m[i]? =some y) (h:(l.take i).map tk=(m.take i).map tk) (he:tk x=tk y):(l.take (i+1)).map tk=(m.take (i+1)).map tk:=by
 rw [List.take_add_one,List.take_add_one,hx,hy,List.map_append,List.map_append,h]
 simp [he]
theorem rsamep_any {B:Nat} {w0:World} {p q:Payload} (h:PayAt B w0 p) (k:PayAt B w0 q):Calls Tryz.prog 123 #[p.pv,q.pv] w0 fun e w'=>e= .returned (.bool (sameP p q))∧Chg N0 w0 w':=by
 have hp:=Hp.start (S:=N0) w0
 have hB:∀b,N0 b→B≤b:=fun _ hh=>hh.elim
 have u1:=Tryz.underlying55
 have u2:=Tryz.underlying34
 have hmax:p.l.length≤9223372036854775807:=by have:=h.row.le;have:=h.row.max;simp only [maxLen] at this;omega
 have hmaq:q.l.length≤9223372036854775807:=by have:=k.row.le;have:=k.row.max;simp only [maxLen] at this;omega
 refine calls_x (args:= [_,_]) tabOk Tryz.func123 Tryz.ntmps123 Tryz.results123 rfl (Nat.le_of_ble_eq_true rfl) ?_
 ((conv=>whnf);repeat' ((first|((with_reducible apply br_id);(with_reducible refine br_ne (fun hx=>?_) (fun hx=>?_))<;>(try (exfalso;first|omega|contradiction)))|((with_reducible apply ld_id);apply ld_hs hp;(focus repeat' constructor);exact rfl)|((with_reducible apply al_id);refine al_cel hp ?_;clear hp;intro bb w hp)|((with_reducible apply gen_id);apply gen_len;exact rfl;exact rfl;assumption))<;>(conv=>whnf)))
 ·exact ps_val (v':= .bool false) rfl ⟨by rw [sameP_len (by omega)],hp.chg⟩
 obtain ⟨b3,hb3⟩:∃b,b=bb:=⟨_,rfl⟩
 subst hb3
 obtain ⟨b2,hb2⟩:∃b,b=bb:=⟨_,rfl⟩
 subst hb2
 have hpq:p.l.length=q.l.length:=by omega
 refine lp_inv (α:=Nat) (fun i=> [(2,ptr b2),(3,ptr b3),(5,i64 i)]) (fun i w=>i≤p.l.length∧(p.l.take i).map tk=(q.l.take i).map tk∧Hp N0 w0 w [cel b3 57 #[q.v],cel b2 57 #[p.v]]) (fun i=>p.l.length - i) 0 (by (repeat' (first|exact trivial|(refine ⟨rfl,?_⟩)))) ⟨by omega,by simp,hp⟩ ?_
 clear hp
 rintro i e0 w ⟨hi,hall,hp⟩
 rcases Nat.lt_or_ge i p.l.length with hlt|hge
 ·obtain ⟨b,o,x,hA,hb,hrow,hxx⟩:=h.row.has hlt
  obtain ⟨b',o',y,hA',hb',hrow',hyy⟩:=k.row.has (show i < q.l.length by omega)
  have hmx:=h.tx x (List.mem_of_getElem? hxx)
  have hmy:=k.tx y (List.mem_of_getElem? hyy)
  ((conv=>whnf);repeat' ((first|((with_reducible apply br_id);first|with_reducible refine br_t ?_|with_reducible refine br_f ?_|((with_reducible refine br_dec (fun hx=>?_) (fun hx=>?_))<;>(try (exfalso;first|omega|contradiction)))|((with_reducible refine br_ne (fun hx=>?_) (fun hx=>?_))<;>(try (exfalso;first|omega|contradiction)))|((with_reducible refine br_s (fun hx=>?_) (fun hx=>?_))<;>(try (exfalso;first|omega|contradiction))))|((with_reducible apply ar_id);refine ar_i64 (by omega) ?_)|((with_reducible apply ld_id);first|(refine ld_row hp hB ‹_› ‹_› _ _ rfl ‹_› (by rfl) ?_)|(apply ld_hs hp;(focus repeat' constructor);exact rfl))|((with_reducible apply gen_id);apply gen_len;exact rfl;exact rfl;assumption)|((with_reducible apply dr_id);refine dr_auto tabOk (by kernel_rfl) (by decide+kernel) ?_;(try replace hp:=hp.drew))|((with_reducible apply rd_id);first|(refine rd_ixs rfl rfl ‹_› rfl rfl (by omega) ?_)|(refine rd_b2s rfl (hmx.keep hp.chg hB) u2 Tryz.underlying5 Tryz.underlying9 rfl ?_)|(refine rd_b2s rfl (hmy.keep hp.chg hB) u2 Tryz.underlying5 Tryz.underlying9 rfl ?_)|(refine rd_streq rfl (a:=x.tx.l) (b:=y.tx.l) rfl rfl (.inr rfl) ?_)))<;>(conv=>whnf)))
  ·exact ps_val (v':= .bool false) rfl ⟨by rw [sameP_ne hxx hyy (fun e=>hx (by rw [show x.fee=y.fee from congrArg Prod.fst e]))],hp.chg⟩
  all_goals have hfee:x.fee=y.fee:=UInt32.toNat_inj.1 (by omega)
  ·have hne:x.tx.l≠y.tx.l:=by simpa using hx
   exact ps_val (v':= .bool false) rfl ⟨by rw [sameP_ne hxx hyy (fun e=>hne (congrArg Prod.snd e))],hp.chg⟩
  ·have he:x.tx.l=y.tx.l:=by simpa using hx
   have htk:tk x=tk y:=by unfold tk;rw [hfee,he]
   exact lp_next (i+1) (by omega) (by (repeat' (first|exact trivial|(refine ⟨rfl,?_⟩)))) ⟨by omega,tk_next hxx hyy hall htk,hp⟩
 ·((conv=>whnf);repeat' ((first|((with_reducible apply br_id);(with_reducible refine br_dec (fun hx=>?_) (fun hx=>?_))<;>(try (exfalso;first|omega|contradiction)))|((with_reducible apply ld_id);apply ld_hs hp;(focus repeat' constructor);exact rfl)|((with_reducible apply gen_id);apply gen_len;exact rfl;exact rfl;assumption))<;>(conv=>whnf)))
  rw [List.take_of_length_le hge,List.take_of_length_le (by omega)] at hall
  exact ps_val (v':= .bool true) rfl ⟨by unfold sameP;rw [decide_eq_true hall],hp.chg⟩
abbrev TkV:=UInt32×List UInt8
def feeOf (l:List UInt8):UInt32:=UInt32.ofNat (numV (l.take 4))
def notUp (ts:List TkV) (fee:UInt32):Bool:=match ts.getLast? with
 |some v=>decide (fee.toNat≤v.1.toNat)
 |none=>false
def dec1 (l:List UInt8) (ts:List TkV):Except Int (TkV×List UInt8):=
 if l.length < 4 then .error 2 else
 if notUp ts (feeOf l)=true then .error 4 else
 match l.drop 4 with
 | []=>.error 2
 |n::r=>if n.toNat < 1∨64 < n.toNat then .error 4 else if r.length < n.toNat then .error 2 else .ok ((feeOf l,r.take n.toNat),r.drop n.toNat)
def decA:Nat→List UInt8→List TkV→Except Int (List TkV×List UInt8)
 |0,l,ts=>.ok (ts,l)
 |k+1,l,ts=>match dec1 l ts with
  | .error e=>.error e
  | .ok (t,r)=>decA k r (ts++ [t])
def decE (d:Except Int (List TkV×List UInt8)):List TkV×Int:=match d with
 | .error e=>([],e)
 | .ok (ts,rest)=>if rest= [] then (ts,0) else ([],3)
def dec (l:List UInt8):List TkV×Int:=match l with
 | []=>([],2)
 |m::r=>if m.toNat < 1∨8 < m.toNat then ([],4) else decE (decA m.toNat r [])
def stepF (q:List UInt8) (p:Nat) (ts:List TkV):Option Int:=
 let t:=rdTake q p none 4
 if notUp ts (UInt32.ofNat (numV t.1))=true then t.2.2.or (some 4) else t.2.2
theorem step_ok {q:List UInt8} {p:Nat} (ts:List TkV) (hp:p≤q.length):
  let f2:=stepF q p ts
  let c:=rdCnt q (rdTake q p none 4).2.1 f2 64
  let b:=rdTake q c.2.1 c.2.2 c.1
  match dec1 (q.drop p) ts with
  | .error e=>b.2.2=some e∧(e=2∨e=4)
  | .ok (t,r)=>b.2.2=none∧t=(UInt32.ofNat (numV (rdTake q p none 4).1),b.1)∧r=q.drop b.2.1∧b.2.1≤q.length:=by
 dsimp only
 unfold dec1 stepF
 by_cases h4:(q.drop p).length < 4
 ·rw [if_pos h4]
  have hs:q.length < p+4:=by rw [List.length_drop] at h4;omega
  rw [rdTake_short hs]
  dsimp only
  have hf:(if notUp ts (UInt32.ofNat (numV []))=true then (some (2:Int)).or (some 4) else some 2)=some 2:=by split<;>rfl
  rw [hf]
  have hc:rdCnt q p (some 2) 64=(0,p,some 2):=by
   unfold rdCnt
   rw [rdTake_bad]
  rw [hc]
  dsimp only
  rw [rdTake_bad]
  exact ⟨rfl, .inl rfl⟩
 ·rw [if_neg h4]
  have hl:p+4≤q.length:=by rw [List.length_drop] at h4;omega
  rw [rdTake_yes hl]
  dsimp only
  have hfee:feeOf (q.drop p)=UInt32.ofNat (numV ((q.drop p).take 4)):=rfl
  rw [←hfee]
  by_cases hn:notUp ts (feeOf (q.drop p))=true
  ·rw [if_pos hn,if_pos hn]
   dsimp only [Option.or]
   have hc:rdCnt q (p+4) (some 4) 64=(0,p+4,some 4):=by
    unfold rdCnt
    rw [rdTake_bad]
   rw [hc]
   dsimp only
   rw [rdTake_bad]
   exact ⟨rfl, .inr rfl⟩
  ·rw [if_neg hn,if_neg hn,List.drop_drop]
   rcases hr:q.drop (p+4) with _|⟨n,r⟩
   ·have hs:q.length < p+4+1:=by
     have:=congrArg List.length hr
     rw [List.length_drop] at this
     simp at this
     omega
    have hc:rdCnt q (p+4) none 64=(0,p+4,some 2):=by
     unfold rdCnt
     rw [rdTake_short hs]
    rw [hc]
    dsimp only
    rw [rdTake_bad]
    exact ⟨rfl, .inl rfl⟩
   ·have hlen:r.length+1=q.length - (p+4):=by
     have:=congrArg List.length hr
     rw [List.length_drop] at this
     simpa using this.symm
    have hs:p+4+1≤q.length:=by omega
    have hr2:q.drop (p+4+1)=r:=by rw [←List.drop_drop,hr];rfl
    have hv:numV ((q.drop (p+4)).take 1)=n.toNat:=by rw [hr];simp [numV]
    dsimp only
    by_cases hb:n.toNat < 1∨64 < n.toNat
    ·rw [if_pos hb]
     have hc:rdCnt q (p+4) none 64=(0,p+4+1,some 4):=by
      unfold rdCnt
      rw [rdTake_yes hs]
      dsimp only
      rw [hv,if_neg (by omega)]
     rw [hc]
     dsimp only
     rw [rdTake_bad]
     exact ⟨rfl, .inr rfl⟩
    ·rw [if_neg hb]
     have hc:rdCnt q (p+4) none 64=(n.toNat,p+4+1,none):=by
      unfold rdCnt
      rw [rdTake_yes hs]
      dsimp only
      rw [hv,if_pos (by omega)]
     rw [hc]
     dsimp only
     by_cases hx:r.length < n.toNat
     ·rw [if_pos hx,rdTake_short (by omega)]
      exact ⟨rfl, .inl rfl⟩
     ·rw [if_neg hx,rdTake_yes (by omega)]
      refine ⟨rfl,?_,?_,by show p+4+1+n.toNat≤_;omega⟩
      ·dsimp only
       rw [hr2]
      ·dsimp only
       rw [←List.drop_drop,hr2]
theorem stepF_bad {q:List UInt8} {p:Nat} {ts:List TkV}:∀e,stepF q p ts=some e→e=2∨e=4:=by
 intro e
 unfold stepF
 dsimp only
 have h1:(rdTake q p none 4).2.2=none∨(rdTake q p none 4).2.2=some 2:=by
  unfold rdTake
  split
  ·exact .inl rfl
  ·exact .inr rfl
 rcases h1 with h1|h1<;>rw [h1]<;>split<;>intro hh<;>simp at hh<;>omega
def tkB (t:TkV):List UInt8:=(numB t.1.toNat 4++numB t.2.length 1)++t.2
theorem bytesP_tk (l:List Tier):bytesP l=numB l.length 1++(l.map tk).flatMap tkB:=by
 unfold bytesP
 congr 1
 rw [List.flatMap_map]
 rfl
theorem numB1 (n:Nat):numB n 1= [UInt8.ofNat n]:=by
 unfold numB be8
 simp
theorem numB4 (n:Nat):numB n 4= [UInt8.ofNat (n / 2 ^ 24),UInt8.ofNat (n / 2 ^ 16),UInt8.ofNat (n / 2 ^ 8),UInt8.ofNat n]:=by
 unfold numB be8
 simp
theorem fee_bytes (x0 x1 x2 x3:UInt8) (rest:List UInt8):numB (feeOf (x0::x1::x2::x3::rest)).toNat 4= [x0,x1,x2,x3]:=by
 have l0:=x0.toNat_lt
 have l1:=x1.toNat_lt
 have l2:=x2.toNat_lt
 have l3:=x3.toNat_lt
 have hv:(feeOf (x0::x1::x2::x3::rest)).toNat=((x0.toNat*256+x1.toNat)*256+x2.toNat)*256+x3.toNat:=by
  unfold feeOf
  have:numV ((x0::x1::x2::x3::rest).take 4)=((x0.toNat*256+x1.toNat)*256+x2.toNat)*256+x3.toNat:=by simp [numV]
  rw [this]
  simp
  omega
 rw [hv,numB4]
 have e:∀(a:Nat) (x:UInt8),a % 256=x.toNat→UInt8.ofNat a=x:=fun a x h=>by
  apply UInt8.toNat_inj.1
  simpa using h
 rw [e _ x0 (by omega),e _ x1 (by omega),e _ x2 (by omega),e _ x3 (by omega)]
theorem fee_of_bytes (f:UInt32) (rest:List UInt8):feeOf (numB f.toNat 4++rest)=f:=by
 have hf:=f.toNat_lt
 rw [numB4]
 unfold feeOf
 have:∀a b c d:UInt8,numV (([a,b,c,d]++rest).take 4)=((a.toNat*256+b.toNat)*256+c.toNat)*256+d.toNat:=fun a b c d=>by simp [numV]
 rw [this]
 apply UInt32.toNat_inj.1
 simp
 omega
theorem ofNat_len {n:Nat} (h:n≤64):(UInt8.ofNat n).toNat=n:=by simp;omega
theorem tkB_eq (t:TkV) (r:List UInt8):tkB t++r=numB t.1.toNat 4++(UInt8.ofNat t.2.length::(t.2++r)):=by
 unfold tkB
 rw [numB1]
 simp
theorem drop4 (f:Nat) (r:List UInt8):(numB f 4++r).drop 4=r:=by
 rw [List.drop_left' (numB_len _ _ (by omega))]
theorem dec1_ok {l r:List UInt8} {ts:List TkV} {t:TkV} (h:dec1 l ts= .ok (t,r)):l=tkB t++r∧1≤t.2.length∧t.2.length≤64∧notUp ts t.1=false:=by
 unfold dec1 at h
 split at h
 ·cases h
 rename_i h4
 split at h
 ·cases h
 rename_i hu
 split at h
 ·cases h
 rename_i n r' hr
 split at h
 ·cases h
 rename_i hb
 split at h
 ·cases h
 rename_i hs
 simp only [Except.ok.injEq,Prod.mk.injEq] at h
 obtain ⟨rfl,rfl⟩:=h
 rcases l with _|⟨x0,_|⟨x1,_|⟨x2,_|⟨x3,rest⟩⟩⟩⟩
 ·simp at h4
 ·simp at h4
 ·simp at h4
 ·simp at h4
 have hr':rest=n::r':=hr
 subst hr'
 have hl:(r'.take n.toNat).length=n.toNat:=by rw [List.length_take];omega
 refine ⟨?_,by show 1≤(r'.take n.toNat).length;omega,by show (r'.take n.toNat).length≤64;omega,by simpa using hu⟩
 rw [tkB_eq]
 show _=numB (feeOf _).toNat 4++(UInt8.ofNat (r'.take n.toNat).length::(r'.take n.toNat++r'.drop n.toNat))
 rw [fee_bytes,hl,List.take_append_drop]
 have:UInt8.ofNat n.toNat=n:=by simp
 rw [this]
 rfl
theorem dec1_mk {ts:List TkV} {t:TkV} (r:List UInt8) (h1:1≤t.2.length) (h2:t.2.length≤64) (hu:notUp ts t.1=false):dec1 (tkB t++r) ts= .ok (t,r):=by
 rw [tkB_eq]
 unfold dec1
 rw [if_neg (by rw [List.length_append,numB_len _ _ (by omega)];omega),fee_of_bytes,hu,if_neg (by simp),drop4]
 dsimp only
 rw [ofNat_len h2,if_neg (by omega),if_neg (by rw [List.length_append];omega),List.take_left,List.drop_left]
def allOk (ts:List TkV):Prop:=∀(i:Nat) t,ts[i]? =some t→(1≤t.2.length∧t.2.length≤64)∧∀(k:Nat) s,i=k+1→ts[k]? =some s→s.1.toNat < t.1.toNat
theorem notUp_iff {ts:List TkV} {f:UInt32}:notUp ts f=false↔∀(k:Nat) s,ts.length=k+1→ts[k]? =some s→s.1.toNat < f.toNat:=by
 unfold notUp
 rw [List.getLast?_eq_getElem?]
 constructor
 ·intro h k s hk hs
  rw [hk,Nat.add_sub_cancel,hs] at h
  simpa using h
 ·intro h
  split
  ·rename_i v hv
   have hlt:=(List.getElem?_eq_some_iff.1 hv).1
   have:=h (ts.length - 1) v (by omega) hv
   simpa using this
  ·rfl
theorem allOk_snoc {ts:List TkV} {t:TkV}:allOk (ts++ [t])↔allOk ts∧(1≤t.2.length∧t.2.length≤64)∧notUp ts t.1=false:=by
 rw [notUp_iff]
 constructor
 ·intro h
  refine ⟨fun i u hu=>?_,?_,fun k s hk hs=>?_⟩
  ·have hi:=(List.getElem?_eq_some_iff.1 hu).1
   obtain ⟨h1,h2⟩:=h i u (by rw [List.getElem?_append_left hi];exact hu)
   refine ⟨h1,fun k s hk hs=>h2 k s hk ?_⟩
   rw [List.getElem?_append_left (by omega)]
   exact hs
  ·exact (h ts.length t (by simp)).1
  ·have hi:=(List.getElem?_eq_some_iff.1 hs).1
   exact (h ts.length t (by simp)).2 k s hk (by rw [List.getElem?_append_left hi];exact hs)
 ·rintro ⟨h1,h2,h3⟩ i u hu
  by_cases hi:i < ts.length
  ·rw [List.getElem?_append_left hi] at hu
   obtain ⟨g1,g2⟩:=h1 i u hu
   refine ⟨g1,fun k s hk hs=>g2 k s hk ?_⟩
   rwa [List.getElem?_append_left (by omega)] at hs
  ·have hl:=(List.getElem?_eq_some_iff.1 hu).1
   rw [List.length_append,List.length_singleton] at hl
   have hi2:i=ts.length:=by omega
   subst hi2
   simp at hu
   subst hu
   refine ⟨h2,fun k s hk hs=>h3 k s hk ?_⟩
   rwa [List.getElem?_append_left (by omega)] at hs
theorem allOk_nil:allOk []:=fun i t h=>by simp at h
theorem allOk_left {ts us:List TkV} (h:allOk (ts++us)):allOk ts:=fun i t ht=>by
 have hi:=(List.getElem?_eq_some_iff.1 ht).1
 obtain ⟨h1,h2⟩:=h i t (by rw [List.getElem?_append_left hi];exact ht)
 exact ⟨h1,fun k s hk hs=>h2 k s hk (by rw [List.getElem?_append_left (by omega)];exact hs)⟩
theorem decA_ok:∀(k:Nat) {l rest:List UInt8} {ts ts':List TkV},allOk ts→decA k l ts= .ok (ts',rest)→allOk ts'∧ts'.length=ts.length+k∧ts.flatMap tkB++l=ts'.flatMap tkB++rest
 |0,l,rest,ts,ts',ha,h=>by
  simp only [decA,Except.ok.injEq,Prod.mk.injEq] at h
  obtain ⟨rfl,rfl⟩:=h
  exact ⟨ha,rfl,rfl⟩
 |k+1,l,rest,ts,ts',ha,h=>by
  unfold decA at h
  split at h
  ·cases h
  ·rename_i t r hd
   obtain ⟨h1,h2,h3,h4⟩:=dec1_ok hd
   obtain ⟨g1,g2,g3⟩:=decA_ok k (allOk_snoc.2 ⟨ha,⟨h2,h3⟩,h4⟩) h
   refine ⟨g1,by rw [g2,List.length_append];simp;omega,?_⟩
   rw [←g3,h1]
   simp
theorem decA_mk:∀(us:List TkV) {ts:List TkV} (r:List UInt8),allOk (ts++us)→decA us.length (us.flatMap tkB++r) ts= .ok (ts++us,r)
 | [],ts,r,_=>by simp [decA]
 |t::us,ts,r,h=>by
  have h1:allOk ((ts++ [t])++us):=by simpa using h
  obtain ⟨_,h2,h3⟩:=allOk_snoc.1 (allOk_left h1)
  have ih:=decA_mk us r h1
  rw [List.length_cons,List.flatMap_cons,List.append_assoc]
  unfold decA
  rw [dec1_mk _ h2.1 h2.2 h3]
  dsimp only
  rw [ih]
  simp
theorem rightP_iff {p:Payload}:rightP p=true↔(1≤p.l.length∧p.l.length≤8)∧allOk (p.l.map tk):=by
 unfold rightP allOk
 rw [Bool.and_eq_true,List.all_eq_true,decide_eq_true_eq]
 refine and_congr Iff.rfl ⟨fun h i u hu=>?_,fun h i hi=>?_⟩
 ·rw [List.getElem?_map] at hu
  obtain ⟨t,ht,rfl⟩:=Option.map_eq_some_iff.1 hu
  have h1:=h i (List.mem_range.2 (List.getElem?_eq_some_iff.1 ht).1)
  unfold tierOk at h1
  rw [ht] at h1
  simp only [Bool.and_eq_true,decide_eq_true_eq] at h1
  refine ⟨h1.1,fun k s hk hs=>?_⟩
  rw [List.getElem?_map] at hs
  obtain ⟨y,hy,rfl⟩:=Option.map_eq_some_iff.1 hs
  subst hk
  have h2:=h1.2
  dsimp only at h2
  rw [hy] at h2
  exact of_decide_eq_true h2
 ·have hlt:=List.mem_range.1 hi
  have ht:=List.getElem?_eq_getElem hlt
  obtain ⟨h1,h2⟩:=h i (tk p.l[i]) (by rw [List.getElem?_map,ht];rfl)
  unfold tierOk
  rw [ht]
  dsimp only
  rw [Bool.and_eq_true,decide_eq_true_eq]
  refine ⟨h1,?_⟩
  cases i with
  |zero=>rfl
  |succ k=>
   dsimp only
   have hk:=List.getElem?_eq_getElem (show k < p.l.length by omega)
   rw [hk]
   exact decide_eq_true (h2 k (tk p.l[k]) rfl (by rw [List.getElem?_map,hk];rfl))
theorem dec_ok {l:List UInt8} {p:Payload} (h:(dec l).2=0) (hp:p.l.map tk=(dec l).1):rightP p=true∧bytesP p.l=l:=by
 rw [rightP_iff,bytesP_tk,hp]
 have hlen:p.l.length=(dec l).1.length:=by rw [←hp,List.length_map]
 rw [hlen]
 rcases l with _|⟨m,r⟩
 ·simp [dec] at h
 ·have e:dec (m::r)=if m.toNat < 1∨8 < m.toNat then ([],4) else decE (decA m.toNat r []):=rfl
  rw [e] at h ⊢
  by_cases hm:m.toNat < 1∨8 < m.toNat
  ·rw [if_pos hm] at h;cases h
  ·rw [if_neg hm] at h ⊢
   unfold decE at h ⊢
   rcases hd:decA m.toNat r [] with e|⟨ts,rest⟩
   ·rw [hd] at h
    dsimp only at h
    subst h
    exfalso
    have key:∀(k:Nat) (l:List UInt8) (ts:List TkV),decA k l ts≠ .error 0:=by
     intro k
     induction k with
     |zero=>intro l ts hh;simp [decA] at hh
     |succ k ih=>
      intro l ts hh
      unfold decA at hh
      split at hh
      ·rename_i e he
       simp at hh
       subst hh
       unfold dec1 at he
       repeat' split at he
       all_goals simp at he
      ·exact ih _ _ hh
    exact key _ _ _ hd
   ·rw [hd] at h
    dsimp only at h ⊢
    by_cases hr:rest= []
    ·rw [if_pos hr]
     obtain ⟨g1,g2,g3⟩:=decA_ok _ allOk_nil hd
     subst hr
     simp only [List.length_nil,Nat.zero_add] at g2
     dsimp only
     refine ⟨⟨by omega,g1⟩,?_⟩
     rw [g2,numB1]
     have:UInt8.ofNat m.toNat=m:=by simp
     rw [this]
     simpa using g3.symm
    ·rw [if_neg hr] at h;cases h
theorem dec_bytes {p:Payload} (h:rightP p=true):dec (bytesP p.l)=(p.l.map tk,0):=by
 obtain ⟨⟨h1,h2⟩,h3⟩:=rightP_iff.1 h
 rw [bytesP_tk,numB1]
 show dec (UInt8.ofNat p.l.length::(p.l.map tk).flatMap tkB)=_
 unfold dec
 dsimp only
 rw [ofNat_len (by omega),if_neg (by omega)]
 have hd:=decA_mk (p.l.map tk) (ts:= []) [] (by simpa using h3)
 rw [List.length_map,List.append_nil] at hd
 rw [hd]
 rfl
section
variable {H : Type}
variable {N : Nat} {enc : TypeId × Value → H} {P : Program} {w : World} {t e : TypeId} {cs : List Value}
end
def Hint.z:Hint:= #v[0,0,0,0,0,0,0,0,0,0,0,0,0,0,0,0]
structure Blob where
 key:Key
 hint:Hint
 data:Bytes
abbrev Blob.c (x:Blob):List Value:=(u32 x.key.ses::u32 x.key.seq::u8 x.hint[0]::u8 x.hint[1]::u8 x.hint[2]::u8 x.hint[3]::u8 x.hint[4]::u8 x.hint[5]::u8 x.hint[6]::u8 x.hint[7]::u8 x.hint[8]::u8 x.hint[9]::u8 x.hint[10]::u8 x.hint[11]::u8 x.hint[12]::u8 x.hint[13]::u8 x.hint[14]::u8 x.hint[15]::x.data.v:: [])
abbrev Blob.v (x:Blob):Value:= .agg (List.toArray (u32 x.key.ses::u32 x.key.seq::u8 x.hint[0]::u8 x.hint[1]::u8 x.hint[2]::u8 x.hint[3]::u8 x.hint[4]::u8 x.hint[5]::u8 x.hint[6]::u8 x.hint[7]::u8 x.hint[8]::u8 x.hint[9]::u8 x.hint[10]::u8 x.hint[11]::u8 x.hint[12]::u8 x.hint[13]::u8 x.hint[14]::u8 x.hint[15]::x.data.v:: []))
def Blob.z:Blob:=⟨⟨0,0⟩,Hint.z,Sl.nil⟩
theorem el_blob:ElT Tryz.prog 28 46 19 48:=elt_of (z:=Blob.z.v) Tryz.underlying28 (by kernel_rfl) rfl (by omega)
theorem blob_one {l:List Blob}:∀x∈l,∀u∈Blob.c x,u.oneCell'=true:=fun x _ u hu=>by
 simp only [Blob.c,List.mem_cons,List.not_mem_nil,or_false] at hu
 rcases hu with rfl|rfl|rfl|rfl|rfl|rfl|rfl|rfl|rfl|rfl|rfl|rfl|rfl|rfl|rfl|rfl|rfl|rfl|rfl<;>rfl
structure BlP where
 key:Key
 hint:Hint
 bytes:List UInt8
deriving DecidableEq
def Blob.p (x:Blob):BlP:=⟨x.key,x.hint,x.data.l⟩
structure BlobsAt (B:Nat) (w:World) (l:Sl Blob):Prop where
 row:SlAt B w Blob.c 19 l
 data:∀x∈l.l,SlAt B w u8L 1 x.data
theorem BlobsAt.keep {S:Nat→Prop} {B:Nat} {w w':World} {l:Sl Blob} (h:BlobsAt B w l) (hc:Chg S w w') (hB:∀b,S b→B≤b):BlobsAt B w' l:=⟨h.row.keep hc hB,fun x hx=>(h.data x hx).keep hc hB⟩
theorem BlobsAt.more {B B':Nat} {w:World} {l:Sl Blob} (h:BlobsAt B w l) (hB:B≤B'):BlobsAt B' w l:=⟨h.row.more hB,fun x hx=>(h.data x hx).more hB⟩
theorem el_id:ElT Tryz.prog 49 48 32 32:=elt_of (z:=Id.z.v) Tryz.underlying49 (by kernel_rfl) rfl (by omega)
theorem idL_one {l:List Id}:∀x∈l,∀u∈Id.c x,u.oneCell'=true:=fun x _ u hu=>by
 rw [←(show (Id.c x).toArray.toList=Id.c x from rfl),←Id.cells] at hu
 simp at hu
 obtain ⟨y,_,rfl⟩:=hu
 rfl
structure Blk where
 hash:Id
 parent:Id
 tx:Sl Id
abbrev Blk.c (x:Blk):List Value:=(u8 x.hash[0]::u8 x.hash[1]::u8 x.hash[2]::u8 x.hash[3]::u8 x.hash[4]::u8 x.hash[5]::u8 x.hash[6]::u8 x.hash[7]::u8 x.hash[8]::u8 x.hash[9]::u8 x.hash[10]::u8 x.hash[11]::u8 x.hash[12]::u8 x.hash[13]::u8 x.hash[14]::u8 x.hash[15]::u8 x.hash[16]::u8 x.hash[17]::u8 x.hash[18]::u8 x.hash[19]::u8 x.hash[20]::u8 x.hash[21]::u8 x.hash[22]::u8 x.hash[23]::u8 x.hash[24]::u8 x.hash[25]::u8 x.hash[26]::u8 x.hash[27]::u8 x.hash[28]::u8 x.hash[29]::u8 x.hash[30]::u8 x.hash[31]::u8 x.parent[0]::u8 x.parent[1]::u8 x.parent[2]::u8 x.parent[3]::u8 x.parent[4]::u8 x.parent[5]::u8 x.parent[6]::u8 x.parent[7]::u8 x.parent[8]::u8 x.parent[9]::u8 x.parent[10]::u8 x.parent[11]::u8 x.parent[12]::u8 x.parent[13]::u8 x.parent[14]::u8 x.parent[15]::u8 x.parent[16]::u8 x.parent[17]::u8 x.parent[18]::u8 x.parent[19]::u8 x.parent[20]::u8 x.parent[21]::u8 x.parent[22]::u8 x.parent[23]::u8 x.parent[24]::u8 x.parent[25]::u8 x.parent[26]::u8 x.parent[27]::u8 x.parent[28]::u8 x.parent[29]::u8 x.parent[30]::u8 x.parent[31]::x.tx.v:: [])
abbrev Blk.v (x:Blk):Value:= .agg (List.toArray (u8 x.hash[0]::u8 x.hash[1]::u8 x.hash[2]::u8 x.hash[3]::u8 x.hash[4]::u8 x.hash[5]::u8 x.hash[6]::u8 x.hash[7]::u8 x.hash[8]::u8 x.hash[9]::u8 x.hash[10]::u8 x.hash[11]::u8 x.hash[12]::u8 x.hash[13]::u8 x.hash[14]::u8 x.hash[15]::u8 x.hash[16]::u8 x.hash[17]::u8 x.hash[18]::u8 x.hash[19]::u8 x.hash[20]::u8 x.hash[21]::u8 x.hash[22]::u8 x.hash[23]::u8 x.hash[24]::u8 x.hash[25]::u8 x.hash[26]::u8 x.hash[27]::u8 x.hash[28]::u8 x.hash[29]::u8 x.hash[30]::u8 x.hash[31]::u8 x.parent[0]::u8 x.parent[1]::u8 x.parent[2]::u8 x.parent[3]::u8 x.parent[4]::u8 x.parent[5]::u8 x.parent[6]::u8 x.parent[7]::u8 x.parent[8]::u8 x.parent[9]::u8 x.parent[10]::u8 x.parent[11]::u8 x.parent[12]::u8 x.parent[13]::u8 x.parent[14]::u8 x.parent[15]::u8 x.parent[16]::u8 x.parent[17]::u8 x.parent[18]::u8 x.parent[19]::u8 x.parent[20]::u8 x.parent[21]::u8 x.parent[22]::u8 x.parent[23]::u8 x.parent[24]::u8 x.parent[25]::u8 x.parent[26]::u8 x.parent[27]::u8 x.parent[28]::u8 x.parent[29]::u8 x.parent[30]::u8 x.parent[31]::x.tx.v:: []))
theorem u32K:KEnc Tryz.prog 24 u32:=u32_enc Tryz.underlying24
structure Sess where
 id:UInt32
 quota:UInt32
 used:UInt32
 exp:UInt32
 deriving DecidableEq
abbrev Sess.v (s:Sess):Value:= .agg #[u32 s.id,u32 s.quota,u32 s.used,u32 s.exp]
def Sess.z:Sess:=⟨0,0,0,0⟩
abbrev Sess.c (s:Sess):List Value:= [u32 s.id,u32 s.quota,u32 s.used,u32 s.exp]
theorem el_ses:ElT Tryz.prog 27 103 4 16:=elt_of (z:=Sess.z.v) Tryz.underlying27 (by kernel_rfl) rfl (by omega)
theorem ses_one {l:List Sess}:∀x∈l,∀u∈Sess.c x,u.oneCell'=true:=fun x _ u hu=>by
 simp only [Sess.c,List.mem_cons,List.not_mem_nil,or_false] at hu
 rcases hu with rfl|rfl|rfl|rfl<;>rfl
abbrev tabRs (b m:Nat) (room:Int) (l:List (UInt32×Sess)):List Res:= [cel b 209 #[.int .i64 room, .map (some m)],mapR u32 Sess.v m l]
def tabR (b m:Nat) (room:Int) (l:List (UInt32×Sess)):Res:=star (tabRs b m room l)
theorem none_no {w:World} {b m:Nat} {room:Int} (hc:w.heap[b]? =some (.cells #[.int .i64 room, .map (some m)] 209)):
  Calls Tryz.prog 158 #[ptr b] w fun e w'=>e= .returned (.bool false)∧Chg N0 w w':=by
 have c1:w.cell? ⟨b,1,none⟩=some (.map (some m)):=cell_of_heap hc rfl
 refine calls_x (args:= [_]) tabOk Tryz.func158 Tryz.ntmps158 Tryz.results158 rfl (Nat.le_of_ble_eq_true rfl) ?_
 ((conv=>whnf);repeat' ((first|((with_reducible apply br_id);with_reducible refine br_f ?_)|((with_reducible apply ld_id);refine ld_of ‹_› ?_))<;>(conv=>whnf)))
 refine ps_of ?_
 exact ⟨rfl,Chg.refl _ _⟩
theorem sesnew_any (w0:World) (n:Int):
  Calls Tryz.prog 101 #[.int .i64 n] w0 fun e w'=>∃b m,e= .returned (ptr b)∧Made (tabR b m (max n 0) []) w0 w':=by
 have hp:=Hp.start (S:=N0) w0
 refine calls_x (args:= [_]) tabOk Tryz.func101 Tryz.ntmps101 Tryz.results101 rfl (Nat.le_of_ble_eq_true rfl) ?_
 ((conv=>whnf);repeat' ((first|((with_reducible apply al_id);refine al_cel hp ?_;clear hp;intro bb w hp)|((with_reducible apply gen_id);first|((refine gen_mmake rfl u32 Sess.v hp ?_);clear hp;intro bb w hp)|(apply gen_build;exact rfl;exact rfl)|(apply gen_max;exact rfl;exact rfl;exact rfl)))<;>(conv=>whnf)))
 exact ps_of ⟨_,_,rfl,hp.made (.refl _)⟩
def grantE (l:List (UInt32×Sess)) (room:Int) (s:Sess):Nat:=
 if s.quota.toNat < 1∨64 < s.quota.toNat∨s.quota.toNat < s.used.toNat then 1 else if (l.lookup s.id).isSome then 6 else if room≤l.length then 16 else 0
def grantL (l:List (UInt32×Sess)) (room:Int) (s:Sess):List (UInt32×Sess):=if grantE l room s=0 then mput l s.id s else l
theorem grant_any {w0:World} {b m:Nat} {room:Int} {l:List (UInt32×Sess)} (h:(tabR b m room l).ok w0) (s:Sess):
  Calls Tryz.prog 140 #[ptr b,s.v] w0 fun e w'=>e= .returned (errno (grantE l room s))∧Mut (tabR b m room l) (tabR b m room (grantL l room s)) w0 w':=by
 have hp:=Hp.open h
 refine calls_x (args:= [_,_]) tabOk Tryz.func140 Tryz.ntmps140 Tryz.results140 rfl (Nat.le_of_ble_eq_true rfl) ?_
 ((conv=>whnf);repeat' (((with_reducible apply al_id);refine al_cel hp ?_;clear hp;intro bb w hp)<;>(conv=>whnf)))
 refine cl_of (none_no (hp.cel_get (j:=1) rfl)) ?_
 rintro e w ⟨rfl,hc⟩
 replace hp:=hp.call0 hc
 refine ⟨_,rfl,?_⟩
 ((conv=>whnf);repeat' ((first|((with_reducible apply br_id);first|with_reducible refine br_t ?_|with_reducible refine br_f ?_|((with_reducible refine br_dec (fun hx=>?_) (fun hx=>?_))<;>(try (exfalso;first|omega|contradiction)))|((with_reducible refine br_s (fun hx=>?_) (fun hx=>?_))<;>(try (exfalso;first|omega|contradiction))))|((with_reducible apply cn_id);refine cn rfl ?_)|((with_reducible apply ld_id);apply ld_hs hp;(focus repeat' constructor);exact rfl)|((with_reducible apply ldn_id);apply lda_hs hp;(focus repeat' constructor);exact rfl)|((with_reducible apply al_id);refine al_cel hp ?_;clear hp;intro bb w hp)|((with_reducible apply st_id);apply sta_hs hp;(focus repeat' constructor);exact rfl;exact rfl;clear hp;intro w hp;(try dsimp only [List.set] at hp))|((with_reducible apply gen_id);(refine gen_put rfl hp 3 rfl rfl u32K Tryz.underlying207 (s.id) rfl (s) rfl ?_);clear hp;intro w hp)|((with_reducible apply dr_id);refine dr_auto tabOk (by kernel_rfl) (by decide+kernel) ?_;(try replace hp:=hp.drew))|((with_reducible apply rd_id);first|(refine rd_look rfl hp 2 rfl rfl u32K Tryz.underlying207 (z:=Sess.z) rfl _ rfl ?_)|(refine rd_mlen rfl hp 3 rfl rfl Tryz.underlying207 ?_)))<;>(conv=>whnf)))
 all_goals first|(refine ps_val (v':=errno 1) rfl ?_;have hg:grantE l room s=1:=(by unfold grantE;(repeat (first|rw [if_pos (by first|assumption|omega)]|rw [if_neg (by first|assumption|omega|(intro hh;simp_all))])));rw [hg];unfold grantL;rw [hg];exact ⟨rfl,hp.tail.tail.shut (.refl _)⟩)|(refine ps_val (v':=errno 6) rfl ?_;have hg:grantE l room s=6:=(by unfold grantE;(repeat (first|rw [if_pos (by first|assumption|omega)]|rw [if_neg (by first|assumption|omega|(intro hh;simp_all))])));rw [hg];unfold grantL;rw [hg];exact ⟨rfl,hp.tail.tail.shut (.refl _)⟩)|(refine ps_val (v':=errno 16) rfl ?_;have hg:grantE l room s=16:=(by unfold grantE;(repeat (first|rw [if_pos (by first|assumption|omega)]|rw [if_neg (by first|assumption|omega|(intro hh;simp_all))])));rw [hg];unfold grantL;rw [hg];exact ⟨rfl,hp.tail.tail.shut (.refl _)⟩)|(refine ps_val (v':=errno 0) rfl ?_;have hg:grantE l room s=0:=(by unfold grantE;(repeat (first|rw [if_pos (by first|assumption|omega)]|rw [if_neg (by first|assumption|omega|(intro hh;simp_all))])));rw [hg];unfold grantL;rw [hg];exact ⟨rfl,hp.tail.tail.shut (.refl _)⟩)
theorem get_any {w0:World} {b m:Nat} {room:Int} {l:List (UInt32×Sess)} (h:(tabR b m room l).ok w0) (id:UInt32):
  Calls Tryz.prog 141 #[ptr b,u32 id] w0 fun e w'=>e= .returned (.tuple #[((l.lookup id).getD Sess.z).v, .bool (l.lookup id).isSome])∧Mut (tabR b m room l) (tabR b m room l) w0 w':=by
 have hp:=Hp.open h
 refine calls_x (args:= [_,_]) tabOk Tryz.func141 Tryz.ntmps141 Tryz.results141 rfl (Nat.le_of_ble_eq_true rfl) ?_
 ((conv=>whnf);repeat' (((with_reducible apply al_id);refine al_cel hp ?_;clear hp;intro bb w hp)<;>(conv=>whnf)))
 refine cl_of (none_no (hp.cel_get (j:=1) rfl)) ?_
 rintro e w ⟨rfl,hc⟩
 replace hp:=hp.call0 hc
 refine ⟨_,rfl,?_⟩
 ((conv=>whnf);repeat' ((first|((with_reducible apply br_id);with_reducible refine br_f ?_)|((with_reducible apply cn_id);refine cn rfl ?_)|((with_reducible apply ld_id);apply ld_hs hp;(focus repeat' constructor);exact rfl)|((with_reducible apply ldn_id);apply lda_hs hp;(focus repeat' constructor);exact rfl)|((with_reducible apply al_id);refine al_cel hp ?_;clear hp;intro bb w hp)|((with_reducible apply st_id);apply sta_hs hp;(focus repeat' constructor);exact rfl;exact rfl;clear hp;intro w hp;(try dsimp only [List.set] at hp))|((with_reducible apply gen_id);(refine gen_look rfl hp 2 rfl rfl u32K Tryz.underlying207 (z:=Sess.z) rfl _ rfl ?_)))<;>(conv=>whnf)))
 refine ps_val (v':= .tuple #[((l.lookup id).getD Sess.z).v, .bool (l.lookup id).isSome]) rfl ?_
 exact ⟨rfl,hp.tail.tail.shut (.refl _)⟩
theorem Hint.cells (x:Hint):(x.toList.map Extern.Stop.cell).toArray=x.c.toArray:=by
 have h:x.toList=(List.finRange 16).map fun i=>x[i]:=by
  apply List.ext_getElem
  ·simp
  ·intro i h1 h2;simp
 rw [h]
 rfl
theorem Hint.maps (x:Hint):x.toList.map u8=x.c:=by
 have:=congrArg Array.toList (Hint.cells x)
 rw [List.toList_toArray,List.toList_toArray] at this
 exact this
theorem hint_flat (X:Hint):((X.c.toArray).toList.drop 0).take (X.toList.length*1)=X.toList.flatMap u8L:=by
 rw [List.toList_toArray,List.drop_zero,←Hint.maps,List.take_of_length_le (by rw [List.length_map];omega),List.map_eq_flatMap]
theorem cel_out {S:Nat→Prop} {w0 w:World} {rs:List Res} {r:Res} {b:Nat} {t:TypeId} {cs:Array Value} (h:Hp S w0 w (cel b t cs::rs)) (hr:r∈rs):¬r.dom b:=(List.pairwise_cons.1 h.sep).1 r hr b (cel_dom.2 rfl)
theorem id_flat (X:Id):((X.c.toArray).toList.drop 0).take (X.toList.length*1)=X.toList.flatMap u8L:=by
 have h1:X.toList.map u8=X.c:=by
  have:=congrArg Array.toList (Id.cells X)
  rw [List.toList_toArray,List.toList_toArray] at this
  exact this
 have h2:X.toList.flatMap u8L=X.toList.map u8:=by rw [List.map_eq_flatMap]
 rw [h2,List.toList_toArray,List.drop_zero,←h1,List.take_of_length_le (by rw [List.length_map];omega)]
structure Cfg where
 dep:Int
 stp:Int
 kep:Int
 ses:Int
 cap:Int
 com:Int
 deriving DecidableEq
abbrev Cfg.c (x:Cfg):List Value:= [i64 x.dep,i64 x.stp,i64 x.kep,i64 x.ses,i64 x.cap,i64 x.com]
abbrev Cfg.v (x:Cfg):Value:= .agg #[i64 x.dep,i64 x.stp,i64 x.kep,i64 x.ses,i64 x.cap,i64 x.com]
structure Sta where
 cfg:Cfg
 ht:UInt32
 halt:Int
 next:UInt32
 win:Sl Blk
 ses:Sl Sess
 blobs:Sl Blob
 jobs:Sl Job
abbrev Sta.c (x:Sta):List Value:=(i64 x.cfg.dep::i64 x.cfg.stp::i64 x.cfg.kep::i64 x.cfg.ses::i64 x.cfg.cap::i64 x.cfg.com::u32 x.ht::i64 x.halt::u32 x.next::x.win.v::x.ses.v::x.blobs.v::x.jobs.v:: [])
abbrev Sta.v (x:Sta):Value:= .agg (List.toArray (i64 x.cfg.dep::i64 x.cfg.stp::i64 x.cfg.kep::i64 x.cfg.ses::i64 x.cfg.cap::i64 x.cfg.com::u32 x.ht::i64 x.halt::u32 x.next::x.win.v::x.ses.v::x.blobs.v::x.jobs.v:: []))
structure StaAt (B:Nat) (w:World) (x:Sta):Prop where
 win:SlAt B w Blk.c 65 x.win
 tx:∀b∈x.win.l,SlAt B w Id.c 32 b.tx
 ses:SlAt B w Sess.c 4 x.ses
 blobs:BlobsAt B w x.blobs
 jobs:SlAt B w Job.c 38 x.jobs
 pay:∀j∈x.jobs.l,PayAt B w j.pay
theorem StaAt.keep {S:Nat→Prop} {B:Nat} {w w':World} {x:Sta} (h:StaAt B w x) (hc:Chg S w w') (hB:∀b,S b→B≤b):StaAt B w' x:=
 ⟨h.win.keep hc hB,fun b hb=>(h.tx b hb).keep hc hB,h.ses.keep hc hB,h.blobs.keep hc hB,h.jobs.keep hc hB,fun j hj=>(h.pay j hj).keep hc hB⟩
section
variable {H : Type} {enc : TypeId × Value → H} {w : World} {cs : List Value} {N : Nat}
end
end Go.Proofs.YtpbapnlnheahnaaGreatDoor
