/- MImprintBytes13: parts of the proof of ImprintBytes: Codec, Pay, Writer2, Pay3, Pay4, Str. No condition of their own. -/
import Derived.Test.YtpbapnlnheahnaaGreatDoorMImprintBytes4
import Derived.Test.YtpbapnlnheahnaaGreatDoorMImprintBytes11
import Derived.Test.YtpbapnlnheahnaaGreatDoorMImprintBytes9
set_option linter.unusedSimpArgs false
set_option linter.unusedVariables false
namespace Go.Proofs.YtpbapnlnheahnaaGreatDoor
set_option maxHeartbeats 2000000
abbrev Byt:=List UInt8
structure Cdc (α:Type) where
 ok:α→Prop
 enc:α→Byt
 dec:Byt→Except Int (α×Byt)
 wr:∀a r,ok a→dec (enc a++r)= .ok (a,r)
 inv:∀l a r,dec l= .ok (a,r)→ok a∧l=enc a++r
 cut:∀a l s,ok a→l++s=enc a→s≠ []→dec l= .error 2
 err:∀l e,dec l= .error e→e≠0
section
variable {α β : Type}
theorem take_all {l r:Byt} {k:Nat} (h:l.length=k):(l++r).take k=l:=List.take_left' h
theorem drop_all {l r:Byt} {k:Nat} (h:l.length=k):(l++r).drop k=r:=List.drop_left' h
def fixC (k:Nat):Cdc Byt where
 ok l:=l.length=k
 enc l:=l
 dec l:=if l.length < k then .error 2 else .ok (l.take k,l.drop k)
 wr a r h:=by
  rw [if_neg (by rw [List.length_append];omega),take_all h,drop_all h]
 inv l a r h:=by
  split at h
  ·cases h
  ·rename_i hl
   simp only [Except.ok.injEq,Prod.mk.injEq] at h
   obtain ⟨rfl,rfl⟩:=h
   exact ⟨by rw [List.length_take];omega,(List.take_append_drop _ _).symm⟩
 cut a l s h hl hs:=by
  have h1:0 < s.length:=List.length_pos_iff.2 hs
  have h2:=congrArg List.length hl
  rw [List.length_append,h] at h2
  rw [if_pos (by omega)]
 err l e h:=by
  split at h
  ·cases h
   decide
  ·cases h
def mapC (C:Cdc α) (f:α→β) (g:β→α) (hg:∀a,C.ok a→g (f a)=a):Cdc β where
 ok b:=C.ok (g b)∧f (g b)=b
 enc b:=C.enc (g b)
 dec l:=match C.dec l with
  | .error e=>.error e
  | .ok (a,r)=>.ok (f a,r)
 wr b r h:=by rw [C.wr _ r h.1];dsimp only;rw [h.2]
 inv l b r h:=by
  split at h
  ·cases h
  ·rename_i a r' hd
   simp only [Except.ok.injEq,Prod.mk.injEq] at h
   obtain ⟨rfl,rfl⟩:=h
   obtain ⟨h1,h2⟩:=C.inv _ _ _ hd
   rw [hg a h1]
   exact ⟨⟨h1,rfl⟩,h2⟩
 cut b l s h hl hs:=by rw [C.cut _ l s h.1 hl hs]
 err l e h:=by
  split at h
  ·rename_i e' hd
   cases h
   exact C.err _ _ hd
  ·cases h
def seqC (C:Cdc α) (D:Cdc β):Cdc (α×β) where
 ok p:=C.ok p.1∧D.ok p.2
 enc p:=C.enc p.1++D.enc p.2
 dec l:=match C.dec l with
  | .error e=>.error e
  | .ok (a,r)=>match D.dec r with
   | .error e=>.error e
   | .ok (b,r')=>.ok ((a,b),r')
 wr p r h:=by
  rw [List.append_assoc,C.wr _ _ h.1]
  dsimp only
  rw [D.wr _ _ h.2]
 inv l p r h:=by
  split at h
  ·cases h
  ·rename_i a r1 hd
   split at h
   ·cases h
   ·rename_i b r2 hd2
    simp only [Except.ok.injEq,Prod.mk.injEq] at h
    obtain ⟨rfl,rfl⟩:=h
    obtain ⟨h1,h2⟩:=C.inv _ _ _ hd
    obtain ⟨h3,h4⟩:=D.inv _ _ _ hd2
    exact ⟨⟨h1,h3⟩,by rw [h2,h4,List.append_assoc]⟩
 cut p l s h hl hs:=by
  rcases List.append_eq_append_iff.1 hl with ⟨a,ha,hb⟩|⟨a,ha,hb⟩
  ·by_cases ha0:a= []
   ·subst ha0
    rw [List.append_nil] at ha
    have h1:=C.wr p.1 [] h.1
    rw [List.append_nil,ha] at h1
    rw [h1]
    dsimp only
    rw [D.cut p.2 [] s h.2 (by simpa using hb) hs]
   ·rw [C.cut p.1 l a h.1 ha.symm ha0]
  ·rw [ha,C.wr _ _ h.1]
   dsimp only
   rw [D.cut p.2 a s h.2 hb.symm hs]
 err l e h:=by
  split at h
  ·rename_i e' hd
   cases h
   exact C.err _ _ hd
  ·split at h
   ·rename_i e' hd
    cases h
    exact D.err _ _ hd
   ·cases h
def chkC (C:Cdc α) (p:α→Bool):Cdc α where
 ok a:=C.ok a∧p a=true
 enc:=C.enc
 dec l:=match C.dec l with
  | .error e=>.error e
  | .ok (a,r)=>if p a=true then .ok (a,r) else .error 4
 wr a r h:=by rw [C.wr a r h.1];dsimp only;rw [if_pos h.2]
 inv l a r h:=by
  split at h
  ·cases h
  ·rename_i b r1 hd
   split at h
   ·rename_i hp
    simp only [Except.ok.injEq,Prod.mk.injEq] at h
    obtain ⟨rfl,rfl⟩:=h
    obtain ⟨h1,h2⟩:=C.inv _ _ _ hd
    exact ⟨⟨h1,hp⟩,h2⟩
   ·cases h
 cut a l s h hl hs:=by rw [C.cut a l s h.1 hl hs]
 err l e h:=by
  split at h
  ·rename_i e' hd
   cases h
   exact C.err _ _ hd
  ·split at h
   ·cases h
   ·cases h
    decide
def repD (C:Cdc α):Nat→Byt→Except Int (List α×Byt)
 |0,l=>.ok ([],l)
 |k+1,l=>match C.dec l with
  | .error e=>.error e
  | .ok (a,r)=>match repD C k r with
   | .error e=>.error e
   | .ok (aL,r')=>.ok (a::aL,r')
theorem repD_mk (C:Cdc α):∀(aL:List α) (r:Byt),(∀a∈aL,C.ok a)→repD C aL.length (aL.flatMap C.enc++r)= .ok (aL,r)
 | [],r,_=>rfl
 |a::aL,r,h=>by
  rw [List.length_cons,List.flatMap_cons,List.append_assoc]
  unfold repD
  rw [C.wr _ _ (h a (List.mem_cons_self ..))]
  dsimp only
  rw [repD_mk C aL r fun x hx=>h x (List.mem_cons_of_mem _ hx)]
theorem repD_inv (C:Cdc α):∀(k:Nat) (l:Byt) (aL:List α) (r:Byt),repD C k l= .ok (aL,r)→aL.length=k∧(∀a∈aL,C.ok a)∧l=aL.flatMap C.enc++r
 |0,l,aL,r,h=>by
  simp only [repD,Except.ok.injEq,Prod.mk.injEq] at h
  obtain ⟨rfl,rfl⟩:=h
  exact ⟨rfl,(fun _ h=>by cases h),rfl⟩
 |k+1,l,aL,r,h=>by
  unfold repD at h
  split at h
  ·cases h
  ·rename_i a r1 hd
   split at h
   ·cases h
   ·rename_i as2 r2 hd2
    simp only [Except.ok.injEq,Prod.mk.injEq] at h
    obtain ⟨rfl,rfl⟩:=h
    obtain ⟨h1,h2⟩:=C.inv _ _ _ hd
    obtain ⟨h3,h4,h5⟩:=repD_inv C k _ _ _ hd2
    refine ⟨by rw [List.length_cons,h3],fun x hx=>?_,by rw [h2,h5,List.flatMap_cons,List.append_assoc]⟩
    rcases List.mem_cons.1 hx with rfl|hx
    ·exact h1
    ·exact h4 x hx
theorem repD_cut (C:Cdc α):∀(aL:List α) (l s:Byt),(∀a∈aL,C.ok a)→l++s=aL.flatMap C.enc→s≠ []→repD C aL.length l= .error 2
 | [],l,s,_,hl,hs=>absurd (List.append_eq_nil_iff.1 hl).2 hs
 |a::aL,l,s,h,hl,hs=>by
  rw [List.flatMap_cons] at hl
  have h1:=h a (List.mem_cons_self ..)
  have h2:=fun x hx=>h x (List.mem_cons_of_mem a hx)
  rw [List.length_cons]
  unfold repD
  rcases List.append_eq_append_iff.1 hl with ⟨b,hb,hc⟩|⟨b,hb,hc⟩
  ·by_cases hb0:b= []
   ·subst hb0
    rw [List.append_nil] at hb
    have h3:=C.wr a [] h1
    rw [List.append_nil,hb] at h3
    rw [h3]
    dsimp only
    rw [repD_cut C aL [] s h2 (by simpa using hc) hs]
   ·rw [C.cut a l b h1 hb.symm hb0]
  ·rw [hb,C.wr _ _ h1]
   dsimp only
   rw [repD_cut C aL b s h2 hc.symm hs]
theorem repD_err (C:Cdc α):∀(k:Nat) (l:Byt) (e:Int),repD C k l= .error e→e≠0
 |0,l,e,h=>by cases h
 |k+1,l,e,h=>by
  unfold repD at h
  split at h
  ·rename_i e' hd
   cases h
   exact C.err _ _ hd
  ·split at h
   ·rename_i e' hd
    cases h
    exact repD_err C k _ _ hd
   ·cases h
def lstC (N:Cdc Nat) (C:Cdc α):Cdc (List α) where
 ok aL:=N.ok aL.length∧∀a∈aL,C.ok a
 enc aL:=N.enc aL.length++aL.flatMap C.enc
 dec l:=match N.dec l with
  | .error e=>.error e
  | .ok (n,r)=>repD C n r
 wr aL r h:=by
  rw [List.append_assoc,N.wr _ _ h.1]
  exact repD_mk C aL r h.2
 inv l aL r h:=by
  split at h
  ·cases h
  ·rename_i n r1 hd
   obtain ⟨h1,h2⟩:=N.inv _ _ _ hd
   obtain ⟨rfl,h4,h5⟩:=repD_inv C _ _ _ _ h
   exact ⟨⟨h1,h4⟩,by rw [h2,h5,List.append_assoc]⟩
 cut aL l s h hl hs:=by
  rcases List.append_eq_append_iff.1 hl with ⟨b,hb,hc⟩|⟨b,hb,hc⟩
  ·by_cases hb0:b= []
   ·subst hb0
    rw [List.append_nil] at hb
    have h3:=N.wr aL.length [] h.1
    rw [List.append_nil,hb] at h3
    rw [h3]
    exact repD_cut C aL [] s h.2 (by simpa using hc) hs
   ·rw [N.cut _ l b h.1 hb.symm hb0]
  ·rw [hb,N.wr _ _ h.1]
   exact repD_cut C aL b s h.2 hc.symm hs
 err l e h:=by
  split at h
  ·rename_i e' hd
   cases h
   exact N.err _ _ hd
  ·exact repD_err C _ _ _ h
def bytC (N:Cdc Nat):Cdc Byt where
 ok b:=N.ok b.length
 enc b:=N.enc b.length++b
 dec l:=match N.dec l with
  | .error e=>.error e
  | .ok (n,r)=>if r.length < n then .error 2 else .ok (r.take n,r.drop n)
 wr b r h:=by
  rw [List.append_assoc,N.wr _ _ h]
  dsimp only
  rw [if_neg (by rw [List.length_append];omega),take_all rfl,drop_all rfl]
 inv l b r h:=by
  split at h
  ·cases h
  ·rename_i n r1 hd
   split at h
   ·cases h
   ·rename_i hl
    simp only [Except.ok.injEq,Prod.mk.injEq] at h
    obtain ⟨rfl,rfl⟩:=h
    obtain ⟨h1,h2⟩:=N.inv _ _ _ hd
    have hn:(r1.take n).length=n:=by rw [List.length_take];omega
    rw [hn]
    exact ⟨h1,by rw [h2,List.append_assoc,List.take_append_drop]⟩
 cut b l s h hl hs:=by
  have hs0:0 < s.length:=List.length_pos_iff.2 hs
  rcases List.append_eq_append_iff.1 hl with ⟨a,ha,hc⟩|⟨a,ha,hc⟩
  ·by_cases ha0:a= []
   ·subst ha0
    rw [List.append_nil] at ha
    have h3:=N.wr b.length [] h
    rw [List.append_nil,ha] at h3
    rw [h3]
    dsimp only
    have:s=b:=by simpa using hc
    subst this
    exact if_pos hs0
   ·rw [N.cut _ l a h ha.symm ha0]
  ·rw [ha,N.wr _ _ h]
   dsimp only
   have:=congrArg List.length hc
   rw [List.length_append] at this
   rw [if_pos (by omega)]
 err l e h:=by
  split at h
  ·rename_i e' hd
   cases h
   exact N.err _ _ hd
  ·split at h
   ·cases h
    decide
   ·cases h
structure Ful2 (α:Type) where
 ok:α→Prop
 enc:α→Byt
 dec:Byt→Except Int α
 wr:∀a,ok a→dec (enc a)= .ok a
 inv:∀l a,dec l= .ok a→ok a∧l=enc a
 err:∀l e,dec l= .error e→e≠0
def pckC (N:Cdc Nat) (F:Ful2 α):Cdc α where
 ok a:=F.ok a∧N.ok (F.enc a).length
 enc a:=N.enc (F.enc a).length++F.enc a
 dec l:=match (bytC N).dec l with
  | .error e=>.error e
  | .ok (b,r)=>match F.dec b with
   | .error e=>.error e
   | .ok a=>.ok (a,r)
 wr a r h:=by
  have h1:(bytC N).dec (N.enc (F.enc a).length++F.enc a++r)= .ok (F.enc a,r):=(bytC N).wr (F.enc a) r h.2
  rw [h1]
  dsimp only
  rw [F.wr a h.1]
 inv l a r h:=by
  split at h
  ·cases h
  ·rename_i b r1 hd
   split at h
   ·cases h
   ·rename_i a' hf
    simp only [Except.ok.injEq,Prod.mk.injEq] at h
    obtain ⟨rfl,rfl⟩:=h
    obtain ⟨h1,h2⟩:=(bytC N).inv _ _ _ hd
    obtain ⟨h3,rfl⟩:=F.inv _ _ hf
    exact ⟨⟨h3,h1⟩,h2⟩
 cut a l s h hl hs:=by
  have h1:(bytC N).dec l= .error 2:=(bytC N).cut (F.enc a) l s h.2 hl hs
  rw [h1]
 err l e h:=by
  split at h
  ·rename_i e' hd
   cases h
   exact (bytC N).err _ _ hd
  ·split at h
   ·rename_i e' hd
    cases h
    exact F.err _ _ hd
   ·cases h
def wholeD (C:Cdc α) (l:Byt):Except Int α:=match C.dec l with
 | .error e=>.error e
 | .ok (a,r)=>if r= [] then .ok a else .error 3
theorem whole_mk (C:Cdc α) {a:α} (h:C.ok a):wholeD C (C.enc a)= .ok a:=by
 have h1:=C.wr a [] h
 rw [List.append_nil] at h1
 unfold wholeD
 rw [h1]
 rfl
theorem whole_inv (C:Cdc α) {l:Byt} {a:α} (h:wholeD C l= .ok a):C.ok a∧l=C.enc a:=by
 unfold wholeD at h
 split at h
 ·cases h
 ·rename_i b r hd
  split at h
  ·rename_i hr
   cases h
   subst hr
   obtain ⟨h1,h2⟩:=C.inv _ _ _ hd
   exact ⟨h1,by rw [h2,List.append_nil]⟩
  ·cases h
theorem whole_more (C:Cdc α) {a:α} (h:C.ok a) (x:UInt8):wholeD C (C.enc a++ [x])= .error 3:=by
 unfold wholeD
 rw [C.wr a [x] h]
 rfl
theorem whole_less (C:Cdc α) {a:α} (h:C.ok a) {l:Byt} {x:UInt8} (hl:l++ [x]=C.enc a):wholeD C l= .error 2:=by
 unfold wholeD
 rw [C.cut a l [x] h hl (by simp)]
theorem whole_err (C:Cdc α) {l:Byt} {e:Int} (h:wholeD C l= .error e):e≠0:=by
 unfold wholeD at h
 split at h
 ·rename_i e' hd
  cases h
  exact C.err _ _ hd
 ·split at h
  ·cases h
  ·cases h
   decide
def fulC (C:Cdc α) (p:α→Bool):Ful2 α where
 ok a:=C.ok a∧p a=true
 enc:=C.enc
 dec l:=match wholeD C l with
  | .error e=>.error e
  | .ok a=>if p a=true then .ok a else .error 4
 wr a h:=by
  rw [whole_mk C h.1]
  dsimp only
  rw [if_pos h.2]
 inv l a h:=by
  split at h
  ·cases h
  ·rename_i b hd
   split at h
   ·rename_i hp
    cases h
    obtain ⟨h1,h2⟩:=whole_inv C hd
    exact ⟨⟨h1,hp⟩,h2⟩
   ·cases h
 err l e h:=by
  split at h
  ·rename_i e' hd
   cases h
   exact whole_err C hd
  ·split at h
   ·cases h
   ·cases h
    decide
def numC (w:Nat) (b:Nat→Byt) (v:Byt→Nat) (h1:∀n,(b n).length=w) (h2:∀n,n < 256 ^ w→v (b n)=n) (h3:∀l,l.length=w→b (v l)=l) (h4:∀l:Byt,l.length=w→v l < 256 ^ w):Cdc Nat where
 ok n:=n < 256 ^ w
 enc:=b
 dec l:=if l.length < w then .error 2 else .ok (v (l.take w),l.drop w)
 wr n r h:=by
  rw [if_neg (by rw [List.length_append,h1];omega),take_all (h1 n),drop_all (h1 n),h2 n h]
 inv l n r h:=by
  split at h
  ·cases h
  ·rename_i hl
   simp only [Except.ok.injEq,Prod.mk.injEq] at h
   obtain ⟨rfl,rfl⟩:=h
   have hw:(l.take w).length=w:=by rw [List.length_take];omega
   exact ⟨h4 _ hw,by rw [h3 _ hw,List.take_append_drop]⟩
 cut n l s h hl hs:=by
  have h5:0 < s.length:=List.length_pos_iff.2 hs
  have h6:=congrArg List.length hl
  rw [List.length_append,h1] at h6
  rw [if_pos (by omega)]
 err l e h:=by
  split at h
  ·cases h
   decide
  ·cases h
end
open Go.RowKit
set_option maxRecDepth 100000
theorem txid_any {B:Nat} {w0:World} {s:Sl UInt8} (h:SlAt B w0 u8L 1 s) (hBw:B≤w0.heap.size) (hn:s.l.length≤900000):Calls Tryz.prog 178 #[s.v] w0 fun e w'=>e= .returned (shaV s.l).v∧Chg N0 w0 w':=by
 have hp:=Hp.start (S:=N0) w0
 have hB:∀b,N0 b→B≤b:=fun _ hh=>hh.elim
 obtain ⟨X,hX⟩:∃X,shaV s.l=X:=⟨_,rfl⟩
 refine calls_x (args:= [_]) tabOk Tryz.func178 Tryz.ntmps178 Tryz.results178 rfl (Nat.le_of_ble_eq_true rfl) ?_
 ((conv=>whnf);repeat' ((first|((with_reducible apply al_id);refine al_cel hp ?_;clear hp;intro bb w hp)|((with_reducible apply gen_id);(refine gen_bs rfl hp el_prt prtL [s] [s.v] rfl rfl rfl (fun _ hh=>by simp at hh;subst hh;rfl) (by omega) ?_);clear hp;intro br w hp))<;>(conv=>whnf)))
 refine cl_of (ssum_any (ps:=⟨some ⟨br,0,none⟩,1, [s]⟩) (hp.row (j:=0) rfl) (Nat.le_refl _) (fun x hx=>?_) (by simpa using hn)) ?_
 ·simp at hx
  subst hx
  exact (h.keep hp.chg hB).more (Nat.le_trans hBw hp.chg.size)
 rintro e w ⟨rfl,hc⟩
 replace hp:=hp.call0 hc
 refine ⟨_,rfl,?_⟩
 rw [show (Sl.mk (some ⟨br,0,none⟩) 1 [s]).l.flatMap (fun x=>x.l)=s.l from List.append_nil _,hX]
 ((conv=>whnf);repeat' ((first|((with_reducible apply cn_id);refine cn rfl ?_)|((with_reducible apply ldn_id);apply lda_hs hp;(focus repeat' constructor);exact rfl)|((with_reducible apply st_id);apply sta_hs hp;(focus repeat' constructor);exact rfl;exact rfl;clear hp;intro w hp;(try dsimp only [List.set] at hp)))<;>(conv=>whnf)))
 exact ps_val (v':=X.v) rfl ⟨rfl,hp.chg⟩
def fewP (p:Payload):Bool:=p.l.all (fun t=>decide (t.tx.l.length≤200)) && decide (p.l.length≤20)
theorem fewP_at {p:Payload} (h:fewP p=true):(∀t∈p.l,t.tx.l.length≤200)∧p.l.length≤20:=by
 unfold fewP at h
 simpa using h
theorem few13_any {B:Nat} {w0:World} {p:Payload} (h:PayAt B w0 p):Calls Tryz.prog 15 #[p.pv] w0 fun e w'=>e= .returned (.bool (fewP p))∧Chg N0 w0 w':=by
 have hp:=Hp.start (S:=N0) w0
 have hB:∀b,N0 b→B≤b:=fun _ hh=>hh.elim
 have u1:=Tryz.underlying55
 have u2:=Tryz.underlying34
 have hmax:p.l.length≤9223372036854775807:=by have:=h.row.le;have:=h.row.max;simp only [maxLen] at this;omega
 refine calls_x (args:= [_]) tabOk Tryz.func15 Tryz.ntmps15 Tryz.results15 rfl (Nat.le_of_ble_eq_true rfl) ?_
 ((conv=>whnf);repeat' (((with_reducible apply al_id);refine al_cel hp ?_;clear hp;intro bb w hp)<;>(conv=>whnf)))
 refine lp_inv (α:=Nat) (fun i=> [(1,ptr bb),(3,i64 i)]) (fun i w=>i≤p.l.length∧(∀t∈p.l.take i,t.tx.l.length≤200)∧Hp N0 w0 w [cel bb 57 #[p.v]]) (fun i=>p.l.length - i) 0 (by (repeat' (first|exact trivial|(refine ⟨rfl,?_⟩)))) ⟨by omega,by simp,hp⟩ ?_
 clear hp
 rintro i e0 w ⟨hi,hall,hp⟩
 rcases Nat.lt_or_ge i p.l.length with hlt|hge
 ·obtain ⟨b,o,x,hA,hb,hrow,hxx⟩:=h.row.has hlt
  have hmem:=List.mem_of_getElem? hxx
  ((conv=>whnf);repeat' ((first|((with_reducible apply br_id);(with_reducible refine br_dec (fun hx=>?_) (fun hx=>?_))<;>(try (exfalso;first|omega|contradiction)))|((with_reducible apply ar_id);refine ar_i64 (by omega) ?_)|((with_reducible apply ld_id);first|(refine ld_row hp hB ‹_› ‹_› _ _ rfl ‹_› (by rfl) ?_)|(apply ld_hs hp;(focus repeat' constructor);exact rfl))|((with_reducible apply gen_id);first|(refine gen_ixs rfl rfl ‹_› rfl rfl (by omega) ?_)|(apply gen_len;exact rfl;exact rfl;assumption)))<;>(conv=>whnf)))
  ·refine ps_val (v':= .bool false) rfl ⟨?_,hp.chg⟩
   have h1:fewP p=false:=by
    unfold fewP
    rw [Bool.and_eq_false_iff]
    left
    rw [List.all_eq_false]
    exact ⟨x,hmem,by simp only [decide_eq_true_eq];omega⟩
   rw [h1]
  ·refine lp_next (i+1) (by omega) (by (repeat' (first|exact trivial|(refine ⟨rfl,?_⟩)))) ⟨by omega,fun t ht=>?_,hp⟩
   rw [List.take_add_one,hxx] at ht
   rcases List.mem_append.1 ht with ht|ht
   ·exact hall t ht
   ·simp at ht
    subst ht
    omega
 ·((conv=>whnf);repeat' ((first|((with_reducible apply br_id);(with_reducible refine br_dec (fun hx=>?_) (fun hx=>?_))<;>(try (exfalso;first|omega|contradiction)))|((with_reducible apply ld_id);apply ld_hs hp;(focus repeat' constructor);exact rfl)|((with_reducible apply gen_id);apply gen_len;exact rfl;exact rfl;assumption))<;>(conv=>whnf)))
  refine ps_val (v':= .bool (decide ((p.l.length:Int)≤20))) rfl ⟨?_,hp.chg⟩
  rw [List.take_of_length_le hge] at hall
  have h1:fewP p=decide ((p.l.length:Int)≤20):=by
   unfold fewP
   rw [List.all_eq_true.2 (fun x hx=>decide_eq_true (hall x hx)),Bool.true_and]
   exact decide_eq_decide.2 (by omega)
  rw [h1]
section
variable {α : Type} {P : Program} {w : World} {ρ : Operand → Value} {o : Oper} {g : Value → World → Prop} {t e : TypeId} {x lo : Operand}
theorem gen_arrl (hop:o.op= .slice t x (some lo) none none) {n:Nat} (ht:P.underlying t=some (.array n e)) {b ofs:Nat} (hx:ρ x= .pointer (some ⟨b,ofs,none⟩)) (he:∃i,P.info? e=some i∧i.size=1) {k:IntKind} {m:Int} (hl:ρ lo= .int k m) (q:Nat) (hm:m=q) (hq:q < n) (l:List α) (hn:l.length=n - q) (hk:g (arrS b (ofs+q) l).v w):Gen P ρ o w g:=by
 obtain ⟨i,hi,hs⟩:=he
 subst hm
 refine gen_v (v:=(arrS b (ofs+q) l).v) (w':=w) ?_ hk
 have h1:(0:Int)≤(q:Int)∧(q:Int)≤(n:Int):=by omega
 have h2:¬n=q:=by omega
 have h3:q≤n:=by omega
 simp [execOp,hop,hx,hl,Instr.sliceAt,Instr.sureAddr,run_underlying ht,Instr.sliceBounds,Instr.sliceBound,asIntOf,sizeOf,typeInfo,hi,hs,arrS,add_plain,hn,h1,h2,h3]
end
theorem back_step {α:Type} {l:List α} {k:Nat} {x z:α}:(List.replicate (k+1) z++l).set k x=List.replicate k z++x::l:=by
 rw [List.set_append_left _ _ (by simp),List.replicate_succ',List.set_append_right _ _ (by simp)]
 simp
def numB (n width:Nat):List UInt8:=(be8 n).drop (8 - width)
def numFit (n width:Nat):Bool:=decide (width=8)|| decide (n / 2 ^ (8*width)=0)
theorem numB_len (n width:Nat) (h:width≤8):(numB n width).length=width:=by
 rw [numB,List.length_drop]
 simp [be8]
 omega
theorem wnum_any {w0:World} {b room:Nat} {s:Sl UInt8} {bad:Int} (n width:Nat) (hw:1≤width∧width≤8) (hnn:n < 2 ^ 64) (h:(star (wrRs b room s bad)).ok w0) (hs:s.l.length≤1000000) (hr:room≤2000000000):
  Calls Tryz.prog 43 #[ptr b, .int .u64 n,i64 width] w0 fun e w'=>∃s':Sl UInt8,s'.l=(putW room s.l bad (numFit n width) (numB n width)).1∧e= .returned (.tuple #[])∧Mut (star (wrRs b room s bad)) (star (wrRs b room s' (putW room s.l bad (numFit n width) (numB n width)).2)) w0 w':=by
 have hp:=Hp.start1 h
 refine calls_x (args:= [_,_,_]) tabOk Tryz.func43 Tryz.ntmps43 Tryz.results43 rfl (Nat.le_of_ble_eq_true rfl) ?_
 ((conv=>whnf);repeat' (((with_reducible apply al_id);refine al_cel hp ?_;clear hp;intro bb w hp)<;>(conv=>whnf)))
 obtain ⟨b6,hb6⟩:∃b6,b6=bb:=⟨_,rfl⟩
 subst hb6
 refine lp_inv (α:=Nat) (fun i=> [(0,ptr b),(1, .int .u64 n),(2,i64 width),(6,ptr b6),(10,i64 i)]) (fun i w=>i≤8∧Hp (star (wrRs b room s bad)).dom w0 w [cel b6 175 (arC u8 (List.replicate (8 - i) 0++(be8 n).drop (8 - i))),star (wrRs b room s bad)]) (fun i=>8 - i) 0 (by (repeat' (first|exact trivial|(refine ⟨rfl,?_⟩)))) ⟨by omega,by have e:List.replicate (8 - 0) (0:UInt8)++(be8 n).drop (8 - 0)=List.replicate 8 0:=rfl;rw [e];exact hp⟩ ?_
 clear hp
 rintro i e0 w ⟨hi,hp⟩
 rcases Nat.lt_or_ge i 8 with hlt|hge
 ·have hg:=be8_get n (7 - i) (by omega)
  rw [show 7 - (7 - i)=i by omega] at hg
  have hd:(be8 n).drop (7 - i)=UInt8.ofNat (n / 2 ^ (8*i))::(be8 n).drop (8 - i):=by
   obtain ⟨hl,he⟩:=List.getElem?_eq_some_iff.1 hg
   rw [List.drop_eq_getElem_cons hl,he,show 7 - i+1=8 - i by omega]
  ((conv=>whnf);repeat' ((first|((with_reducible apply br_id);(with_reducible refine br_dec (fun hx=>?_) (fun hx=>?_))<;>(try (exfalso;first|omega|exact absurd hx ‹_› |exact absurd ‹_› hx)))|((with_reducible apply ar_id);first|(refine ar_n (7 - i) (by omega) (by omega) ?_)|(refine ar_n (8*i) (by omega) (by omega) ?_)|(refine ar_u8n _ rfl ?_)|refine ar_i64 (by omega) ?_)|((with_reducible apply cn_id);refine cn rfl ?_)|((with_reducible apply st_id);(refine st_arr hp 0 rfl (7 - i) (ad1 _ _) (UInt8.ofNat (n / 2 ^ (8*i))) rfl (by simp only [List.length_append,List.length_replicate];omega) rfl ?_);clear hp;intro w hp;dsimp only [List.set] at hp)|((with_reducible apply gen_id);first|(refine gen_shr64 rfl n (8*i) rfl rfl rfl (by omega) ?_)|(apply gen_ixa;exact rfl;exact rfl;exact rfl;exact rfl;omega)))<;>(conv=>whnf)))
  refine lp_next (i+1) (by omega) (by (repeat' (first|exact trivial|(refine ⟨rfl,?_⟩)))) ⟨by omega,?_⟩
  rw [show 8 - i=(7 - i)+1 by omega,back_step,show (7 - i)+1=8 - i by omega,←hd,show 7 - i=8 - (i+1) by omega] at hp
  exact hp
 ·obtain rfl:i=8:=by omega
  have hp:Hp (star (wrRs b room s bad)).dom w0 w [cel b6 175 (arC u8 (be8 n)),star (wrRs b room s bad)]:=hp
  have hlen:(numB n width).length=8 - (8 - width):=by rw [numB_len n width hw.2];omega
  ((conv=>whnf);repeat' ((first|((with_reducible apply br_id);first|with_reducible refine br_t ?_|with_reducible refine br_f ?_|((with_reducible refine br_dec (fun hx=>?_) (fun hx=>?_))<;>(try (exfalso;first|omega|exact absurd hx ‹_› |exact absurd ‹_› hx)))|((with_reducible refine br_eq (fun hx=>?_) (fun hx=>?_))<;>(try (exfalso;first|omega|exact absurd hx ‹_› |exact absurd ‹_› hx))))|((with_reducible apply ar_id);first|(refine ar_n (8 - width) (by omega) (by omega) ?_)|(refine ar_n (8*width) (by omega) (by omega) ?_))|((with_reducible apply gen_id);first|(refine gen_shr64 rfl n (8*width) rfl rfl rfl (by omega) ?_)|(refine gen_arrl rfl Tryz.underlying175 rfl ⟨_,rfl,rfl⟩ rfl (8 - width) rfl (by omega) (numB n width) hlen ?_)|((refine gen_bs rfl hp el_prt prtL [arrS b6 (0+(8 - width)) (numB n width)] [(arrS b6 (0+(8 - width)) (numB n width)).v] rfl rfl rfl (fun _ hh=>by simp at hh;subst hh;rfl) (by omega) ?_);clear hp;intro br w hp)))<;>(conv=>whnf)))
  ·have hfit:numFit n width=true:=by
    unfold numFit
    rw [decide_eq_true (by omega),Bool.true_or]
   have hcc:((arC u8 (be8 n)).toList.drop (0+(8 - width))).take ((numB n width).length*1)=(numB n width).flatMap u8L:=by
    rw [flat_one,Nat.mul_one,Nat.zero_add]
    simp only [arC,numB,List.map_drop]
    exact List.take_of_length_le (by simp)
   have hsl:=cel_slat (enc:=u8L) (sz:=1) (ofs:=0+(8 - width)) (l:=numB n width) hp (j:=1) rfl (fun _ _=>rfl) hcc (by rw [hlen];simp only [maxLen];omega)
   have hl:(Sl.mk (some ⟨br,0,none⟩) 1 [arrS b6 (0+(8 - width)) (numB n width)]).l.flatMap (fun x=>x.l)=numB n width:=List.append_nil _
   refine cl_of (wput_any (B:=w.heap.size) (ps:=⟨some ⟨br,0,none⟩,1, [arrS b6 (0+(8 - width)) (numB n width)]⟩) true (hp.get (j:=2) rfl) (out_row hp (by simp)) (fun y hy=>?_) (by rw [hl,hlen];omega) hs hr) ?_
   ·simp at hy
    subst hy
    refine ⟨by simpa using hsl,fun _ k o hA=>(List.pairwise_cons.1 (List.pairwise_cons.1 hp.sep).2).1 (star (wrRs b room s bad)) (by simp) k (cel_dom.2 ?_)⟩
    simp only [arrS,Option.some.injEq,Addr.mk.injEq] at hA
    exact hA.1.symm
   rw [hl]
   rintro e w ⟨s',hs',rfl,hm⟩
   replace hp:=hp.via (j:=2) rfl hm
   dsimp only [List.set] at hp
   refine ⟨_,rfl,?_⟩
   ((conv=>whnf))
   rw [hfit]
   exact ps_val (v':= .tuple #[]) rfl ⟨s',hs',rfl,hp.shut1 (j:=2) rfl⟩
  ·have hfit:numFit n width=(((n / 2 ^ (8*width):Nat):Int)==0):=by
    unfold numFit
    rw [decide_eq_false (by omega),Bool.false_or,Bool.eq_iff_iff]
    simp only [decide_eq_true_eq,beq_iff_eq]
    omega
   have hcc:((arC u8 (be8 n)).toList.drop (0+(8 - width))).take ((numB n width).length*1)=(numB n width).flatMap u8L:=by
    rw [flat_one,Nat.mul_one,Nat.zero_add]
    simp only [arC,numB,List.map_drop]
    exact List.take_of_length_le (by simp)
   have hsl:=cel_slat (enc:=u8L) (sz:=1) (ofs:=0+(8 - width)) (l:=numB n width) hp (j:=1) rfl (fun _ _=>rfl) hcc (by rw [hlen];simp only [maxLen];omega)
   have hl:(Sl.mk (some ⟨br,0,none⟩) 1 [arrS b6 (0+(8 - width)) (numB n width)]).l.flatMap (fun x=>x.l)=numB n width:=List.append_nil _
   refine cl_of (wput_any (B:=w.heap.size) (ps:=⟨some ⟨br,0,none⟩,1, [arrS b6 (0+(8 - width)) (numB n width)]⟩) (((n / 2 ^ (8*width):Nat):Int)==0) (hp.get (j:=2) rfl) (out_row hp (by simp)) (fun y hy=>?_) (by rw [hl,hlen];omega) hs hr) ?_
   ·simp at hy
    subst hy
    refine ⟨by simpa using hsl,fun _ k o hA=>(List.pairwise_cons.1 (List.pairwise_cons.1 hp.sep).2).1 (star (wrRs b room s bad)) (by simp) k (cel_dom.2 ?_)⟩
    simp only [arrS,Option.some.injEq,Addr.mk.injEq] at hA
    exact hA.1.symm
   rw [hl]
   rintro e w ⟨s',hs',rfl,hm⟩
   replace hp:=hp.via (j:=2) rfl hm
   dsimp only [List.set] at hp
   refine ⟨_,rfl,?_⟩
   ((conv=>whnf))
   rw [hfit]
   exact ps_val (v':= .tuple #[]) rfl ⟨s',hs',rfl,hp.shut1 (j:=2) rfl⟩
theorem el_tier:ElT Tryz.prog 55 88 2 32:=elt_of (z:= .agg #[.int .u32 0, .slice none 0 0]) Tryz.underlying55 (by kernel_rfl) rfl (by omega)
def tierOk (l:List Tier) (i:Nat):Bool:=match l[i]? with
 |some t=>decide (1≤t.tx.l.length∧t.tx.l.length≤64) && (match i with
  |0=>true
  |k+1=>match l[k]? with
   |some s=>decide (s.fee.toNat < t.fee.toNat)
   |none=>true)
 |none=>true
def rightP (p:Payload):Bool:=decide (1≤p.l.length∧p.l.length≤8) && (List.range p.l.length).all (tierOk p.l)
theorem tierOk_zero {l:List Tier} {t:Tier} (h:l[0]? =some t):tierOk l 0=decide (1≤t.tx.l.length∧t.tx.l.length≤64):=by
 unfold tierOk
 rw [h]
 exact Bool.and_true _
theorem tierOk_succ {l:List Tier} {k:Nat} {t s:Tier} (h:l[k+1]? =some t) (hs:l[k]? =some s):tierOk l (k+1)=(decide (1≤t.tx.l.length∧t.tx.l.length≤64) && decide (s.fee.toNat < t.fee.toNat)):=by
 unfold tierOk
 rw [h]
 simp only [hs]
theorem rightP_no {p:Payload} {i:Nat} (hi:i < p.l.length) (h:tierOk p.l i=false):rightP p=false:=by
 unfold rightP
 rw [Bool.and_eq_false_iff]
 right
 rw [List.all_eq_false]
 exact ⟨i,List.mem_range.2 hi,by rw [h];simp⟩
theorem rightP_at {p:Payload} (h:rightP p=true):1≤p.l.length∧p.l.length≤8∧∀t∈p.l,1≤t.tx.l.length∧t.tx.l.length≤64:=by
 unfold rightP at h
 rw [Bool.and_eq_true,List.all_eq_true] at h
 obtain ⟨h1,h2⟩:=h
 have h1:=of_decide_eq_true h1
 refine ⟨h1.1,h1.2,fun t ht=>?_⟩
 obtain ⟨i,hi⟩:=List.mem_iff_getElem?.1 ht
 have h3:=h2 i (List.mem_range.2 (List.getElem?_eq_some_iff.1 hi).1)
 unfold tierOk at h3
 rw [hi] at h3
 simp only [Bool.and_eq_true,decide_eq_true_eq] at h3
 exact h3.1
theorem rightp_any {B:Nat} {w0:World} {p:Payload} (h:PayAt B w0 p):Calls Tryz.prog 113 #[p.pv] w0 fun e w'=>e= .returned (.bool (rightP p))∧Chg N0 w0 w':=by
 have hp:=Hp.start (S:=N0) w0
 have hB:∀b,N0 b→B≤b:=fun _ hh=>hh.elim
 have u1:=Tryz.underlying55
 have u2:=Tryz.underlying34
 have hmax:p.l.length≤9223372036854775807:=by have:=h.row.le;have:=h.row.max;simp only [maxLen] at this;omega
 refine calls_x (args:= [_]) tabOk Tryz.func113 Tryz.ntmps113 Tryz.results113 rfl (Nat.le_of_ble_eq_true rfl) ?_
 ((conv=>whnf);repeat' ((first|((with_reducible apply br_id);first|with_reducible refine br_t ?_|with_reducible refine br_f ?_|((with_reducible refine br_dec (fun hx=>?_) (fun hx=>?_))<;>(try (exfalso;first|omega|contradiction))))|((with_reducible apply ld_id);apply ld_hs hp;(focus repeat' constructor);exact rfl)|((with_reducible apply al_id);refine al_cel hp ?_;clear hp;intro bb w hp)|((with_reducible apply gen_id);apply gen_len;exact rfl;exact rfl;assumption))<;>(conv=>whnf)))
 ·refine ps_val (v':= .bool false) rfl ⟨?_,hp.chg⟩
  have:rightP p=false:=by
   unfold rightP
   rw [decide_eq_false (by omega),Bool.false_and]
  rw [this]
 ·refine ps_val (v':= .bool false) rfl ⟨?_,hp.chg⟩
  have:rightP p=false:=by
   unfold rightP
   rw [decide_eq_false (by omega),Bool.false_and]
  rw [this]
 ·refine lp_inv (α:=Nat) (fun i=> [(1,ptr bb),(16,p.v),(17,i64 p.l.length),(18,i64 i)]) (fun i w=>i≤p.l.length∧(∀j,j < i→tierOk p.l j=true)∧Hp N0 w0 w [cel bb 57 #[p.v]]) (fun i=>p.l.length - i) 0 (by (repeat' (first|exact trivial|(refine ⟨rfl,?_⟩)))) ⟨by omega,fun j hj=>by omega,hp⟩ ?_
  clear hp
  rintro i e0 w ⟨hi,hall,hp⟩
  rcases Nat.lt_or_ge i p.l.length with hlt|hge
  ·obtain ⟨b,o,x,hA,hb,hrow,hxx⟩:=h.row.has hlt
   have hmem:=List.mem_of_getElem? hxx
   have hxm:x.tx.l.length≤9223372036854775807:=by have:=(h.tx x hmem).le;have:=(h.tx x hmem).max;simp only [maxLen] at this;omega
   have next:∀{w:World},tierOk p.l i=true→∀j,j < i+1→tierOk p.l j=true:=fun ht j hj=>by
    rcases Nat.lt_or_ge j i with h1|h1
    ·exact hall j h1
    ·obtain rfl:j=i:=by omega
     exact ht
   cases i with
   |zero=>
    ((conv=>whnf);repeat' ((first|((with_reducible apply br_id);first|with_reducible refine br_t ?_|with_reducible refine br_f ?_|((with_reducible refine br_dec (fun hx=>?_) (fun hx=>?_))<;>(try (exfalso;first|omega|contradiction))))|((with_reducible apply ar_id);refine ar_i64 (by omega) ?_)|((with_reducible apply cn_id);refine cn rfl ?_)|((with_reducible apply ld_id);apply ld_hs hp;(focus repeat' constructor);exact rfl)|((with_reducible apply ldn_id);(refine ldn_rowx hp hB ‹_› ‹_› _ rfl ‹_› rfl ?_))|((with_reducible apply al_id);refine al_cel hp ?_;clear hp;intro bb w hp)|((with_reducible apply st_id);apply sta_hs hp;(focus repeat' constructor);exact rfl;exact rfl;clear hp;intro w hp;(try dsimp only [List.set] at hp))|((with_reducible apply gen_id);(refine gen_ixs rfl rfl ‹_› rfl rfl (by omega) ?_))|((with_reducible apply dr_id);refine dr_auto tabOk (by kernel_rfl) (by decide+kernel) ?_;(try replace hp:=hp.drew))|((with_reducible apply rd_id);apply rd_len;exact rfl;exact rfl;assumption))<;>(conv=>whnf)))
    all_goals first
     |(refine ps_val (v':= .bool false) rfl ⟨?_,hp.chg⟩
       rw [rightP_no hlt (by rw [tierOk_zero hxx,decide_eq_false (by omega)])])
     |exact lp_next 1 (by omega) (by (repeat' (first|exact trivial|(refine ⟨rfl,?_⟩)))) ⟨by omega,next (w:=w) (by rw [tierOk_zero hxx,decide_eq_true (by omega)]),hp.tail⟩
   |succ k=>
    obtain ⟨y,hy⟩:∃y,p.l[k]? =some y:=⟨_,List.getElem?_eq_getElem (by omega)⟩
    ((conv=>whnf);repeat' ((first|((with_reducible apply br_id);first|with_reducible refine br_t ?_|with_reducible refine br_f ?_|((with_reducible refine br_dec (fun hx=>?_) (fun hx=>?_))<;>(try (exfalso;first|omega|contradiction))))|((with_reducible apply ar_id);first|(refine ar_n (k) (by omega) (by omega) ?_)|refine ar_i64 (by omega) ?_)|((with_reducible apply cn_id);refine cn rfl ?_)|((with_reducible apply ld_id);first|(refine ld_row hp hB ‹_› ‹_› _ _ rfl ‹_› (by rfl) ?_)|(apply ld_hs hp;(focus repeat' constructor);exact rfl))|((with_reducible apply ldn_id);(refine ldn_rowx hp hB ‹_› ‹_› _ rfl ‹_› rfl ?_))|((with_reducible apply al_id);refine al_cel hp ?_;clear hp;intro bb w hp)|((with_reducible apply st_id);apply sta_hs hp;(focus repeat' constructor);exact rfl;exact rfl;clear hp;intro w hp;(try dsimp only [List.set] at hp))|((with_reducible apply gen_id);(refine gen_ixs rfl rfl ‹_› rfl rfl (by omega) ?_))|((with_reducible apply dr_id);refine dr_auto tabOk (by kernel_rfl) (by decide+kernel) ?_;(try replace hp:=hp.drew))|((with_reducible apply rd_id);first|(refine rd_ixs rfl rfl ‹_› rfl rfl (by omega) ?_)|(apply rd_len;exact rfl;exact rfl;assumption)))<;>(conv=>whnf)))
    all_goals first
     |(refine ps_val (v':= .bool false) rfl ⟨?_,hp.chg⟩
       rw [rightP_no hlt (by rw [tierOk_succ hxx hy,decide_eq_false (by omega),Bool.false_and])])
     |(refine ps_val (v':= .bool false) rfl ⟨?_,hp.chg⟩
       rw [rightP_no hlt (by rw [tierOk_succ hxx hy,decide_eq_false (p:=y.fee.toNat < x.fee.toNat) (by omega),Bool.and_false])])
     |exact lp_next (k+1+1) (by omega) (by (repeat' (first|exact trivial|(refine ⟨rfl,?_⟩)))) ⟨by omega,next (w:=w) (by rw [tierOk_succ hxx hy,decide_eq_true (by omega),decide_eq_true (p:=y.fee.toNat < x.fee.toNat) (by omega)];rfl),hp.tail⟩
  ·((conv=>whnf);repeat' (((with_reducible apply br_id);(with_reducible refine br_dec (fun hx=>?_) (fun hx=>?_))<;>(try (exfalso;first|omega|contradiction)))<;>(conv=>whnf)))
   refine ps_val (v':= .bool true) rfl ⟨?_,hp.chg⟩
   have:rightP p=true:=by
    unfold rightP
    rw [decide_eq_true (by omega),Bool.true_and,List.all_eq_true]
    intro j hj
    exact hall j (by have:=List.mem_range.1 hj;omega)
   rw [this]
def tierB (t:Tier):List UInt8:=(numB t.fee.toNat 4++numB t.tx.l.length 1)++t.tx.l
def bytesP (l:List Tier):List UInt8:=numB l.length 1++l.flatMap tierB
def encP (p:Payload):List UInt8×Int:=if rightP p=true then (bytesP p.l,0) else ([],1)
theorem putW_ok {room:Nat} {l ps:List UInt8} (h:l.length+ps.length≤room):putW room l 0 true ps=(l++ps,0):=by
 rw [putW,if_neg (by simp),if_neg (by simp),if_neg (by omega)]
theorem fit_1 {n:Nat} (h:n < 256):numFit n 1=true:=by
 unfold numFit
 rw [decide_eq_true (p:=n / 2 ^ (8*1)=0) (by omega),Bool.or_true]
theorem fit_4 (x:UInt32):numFit x.toNat 4=true:=by
 have:=x.toNat_lt
 unfold numFit
 rw [decide_eq_true (p:=x.toNat / 2 ^ (8*4)=0) (by omega),Bool.or_true]
theorem tierB_len {t:Tier} (h:t.tx.l.length≤64):(tierB t).length≤69:=by
 rw [tierB,List.length_append,List.length_append,numB_len _ _ (by omega),numB_len _ _ (by omega)]
 omega
theorem flat_le {l:List Tier} (h:∀t∈l,t.tx.l.length≤64):(l.flatMap tierB).length≤69*l.length:=by
 induction l with
 |nil=>simp
 |cons t l ih=>
  have h1:=tierB_len (h t (by simp))
  have h2:=ih fun x hx=>h x (by simp [hx])
  rw [List.flatMap_cons,List.length_append,List.length_cons]
  omega
theorem enc_any {B:Nat} {w0:World} {p:Payload} (h:PayAt B w0 p) (hBw:B≤w0.heap.size):Calls Tryz.prog 56 #[p.pv] w0 fun e w'=>∃r:Sl UInt8,r.l=(encP p).1∧e= .returned (.tuple #[r.v,i64 (encP p).2])∧Made (rowR 5 1 u8L r) w0 w':=by
 have hp:=Hp.start (S:=N0) w0
 have hB:∀b,N0 b→B≤b:=fun _ hh=>hh.elim
 have u1:=Tryz.underlying55
 have u2:=Tryz.underlying34
 have hmax:p.l.length≤9223372036854775807:=by have:=h.row.le;have:=h.row.max;simp only [maxLen] at this;omega
 refine calls_x (args:= [_]) tabOk Tryz.func56 Tryz.ntmps56 Tryz.results56 rfl (Nat.le_of_ble_eq_true rfl) ?_
 ((conv=>whnf);repeat' ((first|((with_reducible apply ldn_id);apply lda_hs hp;(focus repeat' constructor);exact rfl)|((with_reducible apply al_id);refine al_cel hp ?_;clear hp;intro bb w hp))<;>(conv=>whnf)))
 refine cl_of (rightp_any (B:=B) ⟨h.row.keep hp.chg hB,fun t ht=>(h.tx t ht).keep hp.chg hB⟩) ?_
 rintro e w ⟨rfl,hc⟩
 replace hp:=hp.call0 hc
 refine ⟨_,rfl,?_⟩
 ((conv=>whnf);repeat' (((with_reducible apply br_id);first|with_reducible refine br_not ?_|((with_reducible refine br_s (fun hx=>?_) (fun hx=>?_))<;>(try (exfalso;first|omega|contradiction))))<;>(conv=>whnf)))
 rotate_left
 ·have hR:rightP p=false:=by simpa using hx
  have hp0:Hp N0 w0 w [rowR 5 1 u8L Sl.nil]:=(hp.new (Chg.refl _ _) (r:=rowR 5 1 u8L Sl.nil) (rowR_ok.2 ⟨World.ownsRow_nil w 0 _ _,by simp [Sl.nil]⟩) fun b hb=>by have h1:=rowR_dom.1 hb;cases h1).sub (List.Sublist.cons_cons _ (List.nil_sublist _))
  exact ps_val (v':= .tuple #[(Sl.nil (α:=UInt8)).v,i64 1]) rfl ⟨Sl.nil,by rw [encP,if_neg (by rw [hR];simp)];rfl,by rw [encP,if_neg (by rw [hR];simp)],hp0.made1 (j:=0) rfl⟩
 ·have hR:rightP p=true:=by simpa using hx
  obtain ⟨hr1,hr2,hr3⟩:=rightP_at hR
  obtain ⟨b1,hb1⟩:∃b,b=bb:=⟨_,rfl⟩
  subst hb1
  refine cl_of (wnew_any 553 (by omega)) ?_
  rintro e w ⟨b,rfl,hm⟩
  replace hp:=hp.add hm
  clear hm
  refine ⟨_,rfl,?_⟩
  ((conv=>whnf);repeat' ((first|((with_reducible apply ar_id);refine ar_u64 (by omega) ?_)|((with_reducible apply ld_id);apply ld_hs hp;(focus repeat' constructor);exact rfl)|((with_reducible apply gen_id);apply gen_len;exact rfl;exact rfl;assumption))<;>(conv=>whnf)))
  refine cl_of (wnum_any p.l.length 1 (by omega) (by omega) (hp.get (j:=0) rfl) (by simp [Sl.nil]) (by omega)) ?_
  rintro e w ⟨s1,hs1,rfl,hm⟩
  replace hp:=hp.via (j:=0) rfl hm
  dsimp only [List.set] at hp
  clear hm
  refine ⟨_,rfl,?_⟩
  have hn1:(numB p.l.length 1).length=1:=numB_len _ _ (by omega)
  rw [fit_1 (by omega),putW_ok (by rw [hn1];simp [Sl.nil])] at hs1 hp
  ((conv=>whnf);repeat' ((first|((with_reducible apply ld_id);apply ld_hs hp;(focus repeat' constructor);exact rfl)|((with_reducible apply gen_id);apply gen_len;exact rfl;exact rfl;assumption))<;>(conv=>whnf)))
  refine lp_inv (α:=Nat×Sl UInt8) (fun a=> [(1,ptr b1),(4,ptr b),(18,p.v),(19,i64 p.l.length),(20,i64 a.1)]) (fun a w=>a.1≤p.l.length∧a.2.l=numB p.l.length 1++(p.l.take a.1).flatMap tierB∧Hp N0 w0 w [star (wrRs b 553 a.2 0),cel b1 57 #[p.v]]) (fun a=>p.l.length - a.1) (0,s1) (by (repeat' (first|exact trivial|(refine ⟨rfl,?_⟩)))) ⟨by omega,by rw [hs1];simp [Sl.nil],hp⟩ ?_
  clear hp hs1
  rintro ⟨i,q⟩ e0 w ⟨hi,hq,hp⟩
  dsimp only at hi hq hp ⊢
  have hql:q.l.length≤1+69*i:=by
   have h1:=flat_le (l:=p.l.take i) fun t ht=>(hr3 t (List.mem_of_mem_take ht)).2
   rw [hq,List.length_append,hn1]
   rw [List.length_take] at h1
   omega
  rcases Nat.lt_or_ge i p.l.length with hlt|hge
  ·obtain ⟨bb,o,x,hA,hb,hrow,hxx⟩:=h.row.has hlt
   have hmem:=List.mem_of_getElem? hxx
   obtain ⟨hx1,hx2⟩:=hr3 x hmem
   have hn4:(numB x.fee.toNat 4).length=4:=numB_len _ _ (by omega)
   have hn2:(numB x.tx.l.length 1).length=1:=numB_len _ _ (by omega)
   have hx32:=x.fee.toNat_lt
   ((conv=>whnf);repeat' ((first|((with_reducible apply br_id);(with_reducible refine br_dec (fun hx=>?_) (fun hx=>?_))<;>(try (exfalso;first|omega|contradiction)))|((with_reducible apply ar_id);refine ar_u64 (by omega) ?_)|((with_reducible apply cn_id);refine cn rfl ?_)|((with_reducible apply ld_id);apply ld_hs hp;(focus repeat' constructor);exact rfl)|((with_reducible apply ldn_id);(refine ldn_rowx hp hB ‹_› ‹_› _ rfl ‹_› rfl ?_))|((with_reducible apply al_id);refine al_cel hp ?_;clear hp;intro bb w hp)|((with_reducible apply st_id);apply sta_hs hp;(focus repeat' constructor);exact rfl;exact rfl;clear hp;intro w hp;(try dsimp only [List.set] at hp))|((with_reducible apply gen_id);(refine gen_ixs rfl rfl ‹_› rfl rfl (by omega) ?_)))<;>(conv=>whnf)))
   refine cl_of (wnum_any x.fee.toNat 4 (by omega) (by omega) (hp.get (j:=1) rfl) (by omega) (by omega)) ?_
   rintro e w ⟨s2,hs2,rfl,hm⟩
   replace hp:=hp.via (j:=1) rfl hm
   dsimp only [List.set] at hp
   clear hm
   refine ⟨_,rfl,?_⟩
   rw [fit_4,putW_ok (by omega)] at hs2 hp
   have hl2:s2.l.length=q.l.length+4:=by rw [hs2,List.length_append,hn4]
   ((conv=>whnf);repeat' ((first|((with_reducible apply ar_id);refine ar_u64 (by omega) ?_)|((with_reducible apply ld_id);apply ld_hs hp;(focus repeat' constructor);exact rfl)|((with_reducible apply gen_id);apply gen_len;exact rfl;exact rfl;assumption))<;>(conv=>whnf)))
   refine cl_of (wnum_any x.tx.l.length 1 (by omega) (by omega) (hp.get (j:=1) rfl) (by omega) (by omega)) ?_
   rintro e w ⟨s3,hs3,rfl,hm⟩
   replace hp:=hp.via (j:=1) rfl hm
   dsimp only [List.set] at hp
   clear hm
   refine ⟨_,rfl,?_⟩
   rw [fit_1 (by omega),putW_ok (by omega)] at hs3 hp
   have hl3:s3.l.length=q.l.length+5:=by rw [hs3,List.length_append,hn2,hl2]
   ((conv=>whnf);repeat' (((with_reducible apply ld_id);apply ld_hs hp;(focus repeat' constructor);exact rfl)<;>(conv=>whnf)))
   refine cl_of (wbytes_any (B:=B) (hp.get (j:=1) rfl) ⟨(h.tx x hmem).keep hp.chg hB,fun hne k o hk hd=>?_⟩ (Nat.le_trans hBw hp.chg.size) (by omega) (by omega) (by omega)) ?_
   ·have h1:=(hp.own _ (List.mem_cons_of_mem _ (List.mem_cons_self ..)) k hd).resolve_left (fun hh=>hh)
    obtain ⟨b',o',h4,h5,_⟩:=(h.tx x hmem).row hne
    rw [hk] at h4
    cases h4
    omega
   rintro e w ⟨s4,hs4,rfl,hm⟩
   replace hp:=hp.via (j:=1) rfl hm
   dsimp only [List.set] at hp
   clear hm
   refine ⟨_,rfl,?_⟩
   rw [putW_ok (by omega)] at hs4 hp
   ((conv=>whnf);repeat' (((with_reducible apply ar_id);refine ar_i64 (by omega) ?_)<;>(conv=>whnf)))
   refine lp_next (i+1,s4) (by show p.l.length - (i+1) < p.l.length - i;omega) (by (repeat' (first|exact trivial|(refine ⟨rfl,?_⟩)))) ⟨by show i+1≤_;omega,?_,hp.tail⟩
   show s4.l=numB p.l.length 1++(p.l.take (i+1)).flatMap tierB
   rw [hs4,hs3,hs2,hq,List.take_add_one,hxx,List.flatMap_append]
   simp [tierB,List.append_assoc]
  ·rw [List.take_of_length_le hge] at hq
   ((conv=>whnf);repeat' (((with_reducible apply br_id);(with_reducible refine br_dec (fun hx=>?_) (fun hx=>?_))<;>(try (exfalso;first|omega|contradiction)))<;>(conv=>whnf)))
   refine cl_of (wdone_any (hp.get (j:=0) rfl) (by omega)) ?_
   rintro e w ⟨r,hr,rfl,hm⟩
   replace hp:=hp.add hm
   clear hm
   refine ⟨_,rfl,?_⟩
   ((conv=>whnf))
   exact ps_val (v':= .tuple #[r.v,i64 0]) rfl ⟨r,by rw [hr,if_pos rfl,hq,encP,if_pos hR];rfl,by rw [encP,if_pos hR],hp.made1 (j:=0) rfl⟩
theorem rd_b2s {P:Program} {w:World} {ρ:Operand→Value} {o:Oper} {g:Value→Prop} {B:Nat} {e src dst:TypeId} {x:Operand} (hop:o.op= .convert src dst x) {s:Sl UInt8} (h:SlAt B w u8L 1 s) (hs:P.underlying src=some (.slice e)) (he:P.underlying e=some (.int .u8)) (hd:P.underlying dst=some .string) (hx:ρ x=s.v) (hk:g (str s.l)):Rd P ρ o w g:=
 ⟨str s.l,fun w' hc=>by simp only [execOp,hop,Sem.run_bind,hx,run_b2s hs he hd (h.keep hc fun _ hh=>hh.elim),Result.andThen_ok,Sem.run_pure],hk⟩
theorem rd_streq {P:Program} {w:World} {ρ:Operand→Value} {o:Oper} {g:Value→Prop} {op:BinOp} {t t2:TypeId} {x y:Operand} (hop:o.op= .binOp op t x y t2) {a b:List UInt8} (hx:ρ x=str a) (hy:ρ y=str b) (ho:op= .eql∨op= .neq) (hk:g (.bool (if op= .eql then decide (a=b) else !decide (a=b)))):Rd P ρ o w g:=by
 have hg:∀op,eqGuard op t x y (str a) (str b)=pure ():=fun op=>by cases op<;>simp [eqGuard]
 rcases ho with rfl|rfl
 ·refine rd_bin hop (by rw [hx,hy];exact hg _) (fun w'=>?_) hk
  simp only [hx,hy,binOp_string_eql,bytes_eq,Sem.run_pure]
  rfl
 ·refine rd_bin hop (by rw [hx,hy];exact hg _) (fun w'=>?_) hk
  simp only [hx,hy,binOp_string_neq,bytes_eq,Sem.run_pure]
  rfl
end Go.Proofs.YtpbapnlnheahnaaGreatDoor
