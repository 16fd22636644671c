/- MPlanTells16: PlanP, Sort0. -/
import Derived.Test.YteabebmlclgakaaGreatMPlanTells11
import Derived.Test.YteabebmlclgakaaGreatMPlanTells15
import Derived.Test.YteabebmlclgakaaGreatMPlanTells8
import Derived.Sort.LotA
import Derived.Sort.LotB
import Derived.Sort.LotD3
import Derived.Lib.BitFns
set_option linter.unusedSimpArgs false
set_option linter.unusedVariables false
/- PlanP: what a plan is, by jobs and by heights: both are one. No program in sight. -/
namespace Go.Proofs.YteabebmlclgakaaGreat
open Go.RowKit
set_option maxRecDepth 100000
set_option maxHeartbeats 2000000
structure StpP where
 sub:SubP
 place:Int
 fee:UInt32
 deriving DecidableEq
abbrev Stp.p (x:Stp):StpP:=⟨x.sub.p,x.place,x.fee⟩
theorem next_gt {b h many m:Nat} {step:Int} (hn:nextT b h step many=some m):h < m∧m≤4294967295∧tierAt b m step many=tierAt b h step many+1∧tierAt b h step many+1 < many:=by
 unfold nextT at hn
 split at hn
 ·cases hn
 ·rename_i h1
  split at hn
  ·cases hn
  ·rename_i h2
   obtain rfl:=Option.some.inj hn
   obtain ⟨d,hd⟩:∃d:Nat,(max step 1).toNat=d:=⟨_,rfl⟩
   have hd1:1≤d:=by omega
   rw [hd] at h2 ⊢
   obtain ⟨n,hT⟩:∃n,tierAt b h step many=n:=⟨_,rfl⟩
   rw [hT] at h1 h2 ⊢
   have hM:d*(n+1)=d*n+d:=Nat.mul_succ d n
   have hgt:h < b+d*(n+1):=by
    unfold tierAt at hT
    rw [hd] at hT
    split at hT
    ·have:d*(n+1)≥d:=Nat.le_mul_of_pos_right d (by omega)
     omega
    ·have hq:(h - b) / d=n:=by omega
     have:=Nat.lt_mul_div_succ (h - b) (show 0 < d by omega)
     rw [hq] at this
     omega
   refine ⟨hgt,by omega,?_,by omega⟩
   unfold tierAt
   rw [hd,if_neg (by have:d*(n+1)≥d:=Nat.le_mul_of_pos_right d (by omega);omega),show b+d*(n+1) - b=(n+1)*d by rw [Nat.mul_comm];omega,Nat.mul_div_cancel _ (by omega)]
   omega
theorem tier_same {b h h' many:Nat} {step:Int} (hh:h≤h') (hq:many≤tierAt b h step many+1∨h' < b+(max step 1).toNat*(tierAt b h step many+1)):tierAt b h' step many=tierAt b h step many:=by
 obtain ⟨n,hT⟩:∃n,tierAt b h step many=n:=⟨_,rfl⟩
 rw [hT] at hq ⊢
 obtain ⟨d,hd⟩:∃d:Nat,(max step 1).toNat=d:=⟨_,rfl⟩
 have hd1:1≤d:=by omega
 rw [hd] at hq
 unfold tierAt at hT ⊢
 rw [hd] at hT ⊢
 by_cases c1:h'≤b∨many < 1
 ·rw [if_pos c1]
  rw [if_pos (by omega)] at hT
  exact hT
 ·rw [if_neg c1]
  by_cases c2:h≤b
  ·rw [if_pos (.inl c2)] at hT
   subst hT
   rcases hq with hq|hq
   ·generalize (h' - b) / d=q
    omega
   ·rw [Nat.div_eq_of_lt (by omega)]
    omega
  ·rw [if_neg (by omega)] at hT
   have hmono:(h - b) / d≤(h' - b) / d:=Nat.div_le_div_right (by omega)
   rcases hq with hq|hq
   ·omega
   ·by_cases c3:many≤n+1
    ·omega
    ·have e1:(h - b) / d=n:=by omega
     have e2:(h' - b) / d < n+1:=(Nat.div_lt_iff_lt_mul (by omega)).2 (by rw [Nat.mul_comm];omega)
     omega
theorem next_none {b h h' many:Nat} {step:Int} (hn:nextT b h step many=none) (hh:h≤h') (ht:h'≤4294967295):tierAt b h' step many=tierAt b h step many:=by
 unfold nextT at hn
 by_cases c0:many < 1
 ·unfold tierAt
  rw [if_pos (.inr c0),if_pos (.inr c0)]
 refine tier_same hh ?_
 split at hn
 ·rename_i h1
  rcases h1 with h1|h1|h1
  ·omega
  ·exact .inl h1
  ·right
   have:(max step 1).toNat*(tierAt b h step many+1)≥(max step 1).toNat:=Nat.le_mul_of_pos_right _ (by omega)
   omega
 ·split at hn
  ·right;omega
  ·cases hn
theorem next_some {b h h' many m:Nat} {step:Int} (hn:nextT b h step many=some m) (hh:h≤h') (ht:h' < m):tierAt b h' step many=tierAt b h step many:=by
 refine tier_same hh ?_
 unfold nextT at hn
 split at hn
 ·cases hn
 ·split at hn
  ·cases hn
  ·obtain rfl:=Option.some.inj hn
   exact .inr ht
theorem dueP_same {j:JobP} {h h':UInt32} {step:Int} (hh:tierAt j.height.toNat h'.toNat step j.tiers.length=tierAt j.height.toNat h.toNat step j.tiers.length):dueP j h' step=dueP j h step:=by unfold dueP;rw [hh]
def stpO (place far:Int) (h:UInt32) (j:JobP):Option StpP:=match dueP j h far with
 |none=>none
 |some n=>match j.tiers[n]? with
  |none=>none
  |some t=>some ⟨⟨j.key,j.breach,h,n,t.2⟩,place,t.1⟩
theorem stpO_none {place far:Int} {h:UInt32} {j:JobP} (hd:dueP j h far=none):stpO place far h j=none:=by unfold stpO;rw [hd]
theorem stpO_sub {place far:Int} {h:UInt32} {j:JobP}:(stpO place far h j).map (·.sub)=subO h far j:=by
 unfold stpO subO
 cases dueP j h far with
 |none=>rfl
 |some n=>
  dsimp only
  cases j.tiers[n]? with
  |none=>rfl
  |some t=>rfl
theorem stpO_at {place far:Int} {h:UInt32} {j:JobP} {s:StpP} (hs:stpO place far h j=some s):s.place=place∧s.sub.height=h∧s.sub.key=j.key∧0≤s.sub.tier∧∃t,j.tiers[s.sub.tier.toNat]? =some t∧s.fee=t.1:=by
 unfold stpO at hs
 split at hs
 ·cases hs
 ·split at hs
  ·cases hs
  ·rename_i t ht
   cases hs
   exact ⟨rfl,rfl,rfl,Int.natCast_nonneg _,t,ht,rfl⟩
def runJ (place far:Int):Nat→Nat→JobP→List StpP
 |0,_,_=> []
 |k+1,h,j=>(stpO place far (UInt32.ofNat h) j).toList++runJ place far k (h+1) (sentJ (UInt32.ofNat h) far j)
theorem runJ_quiet {place far:Int} {j:JobP}:∀(k k' h:Nat),(∀h',h≤h'→h' < h+k→dueP j (UInt32.ofNat h') far=none)→runJ place far (k+k') h j=runJ place far k' (h+k) j
 |0,k',h,_=>by rw [Nat.zero_add,Nat.add_zero]
 |k+1,k',h,hq=>by
  have h0:=hq h (Nat.le_refl _) (by omega)
  rw [show k+1+k'=(k+k')+1 by omega]
  show (stpO place far (UInt32.ofNat h) j).toList++runJ place far (k+k') (h+1) (sentJ (UInt32.ofNat h) far j)=_
  rw [stpO_none h0,sentJ_none h0,runJ_quiet k k' (h+1) fun h' h1 h2=>hq h' (by omega) (by omega)]
  show []++_=_
  rw [List.nil_append,show h+1+k=h+(k+1) by omega]
def stepL (place far:Int):Nat→JobP→UInt32→List StpP
 |0,_,_=> []
 |f+1,j,h=>(stpO place far h j).toList++
  (match nextT j.height.toNat h.toNat far j.tiers.length with
   |none=> []
   |some m=>stepL place far f (sentJ h far j) (UInt32.ofNat m))
def stepsP (place far:Int) (j:JobP) (ht:UInt32):List StpP:=if ht.toNat=4294967295 then [] else stepL place far 4294967296 j (ht+1)
theorem sentJ_len (h:UInt32) (far:Int) (j:JobP):(sentJ h far j).tiers=j.tiers∧(sentJ h far j).height=j.height∧(sentJ h far j).key=j.key:=by
 unfold sentJ
 split<;>exact ⟨rfl,rfl,rfl⟩
theorem stepL_run {place far:Int}:∀(f:Nat) (j:JobP) (h:UInt32),4294967296≤f+h.toNat→stepL place far f j h=runJ place far (4294967296 - h.toNat) h.toNat j
 |0,j,h,hf=>by have:=h.toNat_lt;omega
 |f+1,j,h,hf=>by
  have hlt:=h.toNat_lt
  obtain ⟨q1,q2,_⟩:=sentJ_len h far j
  have hR:runJ place far (4294967296 - h.toNat) h.toNat j=(stpO place far h j).toList++runJ place far (4294967295 - h.toNat) (h.toNat+1) (sentJ h far j):=by
   rw [show 4294967296 - h.toNat=(4294967295 - h.toNat)+1 by omega]
   show (stpO place far (UInt32.ofNat h.toNat) j).toList++runJ place far _ (h.toNat+1) (sentJ (UInt32.ofNat h.toNat) far j)=_
   rw [UInt32.ofNat_toNat]
  rw [hR]
  show (stpO place far h j).toList++_=_
  congr 1
  have hq:∀h',h'≤4294967295→tierAt j.height.toNat h' far j.tiers.length=tierAt j.height.toNat h.toNat far j.tiers.length→dueP (sentJ h far j) (UInt32.ofNat h') far=none:=fun h' h1 h2=>by
   rw [dueP_same (h:=h) (by rw [q1,q2,UInt32.toNat_ofNat',Nat.mod_eq_of_lt (by omega)];exact h2),dueP_sent]
  cases hn:nextT j.height.toNat h.toNat far j.tiers.length with
  |none=>
   have:=runJ_quiet (place:=place) (far:=far) (j:=sentJ h far j) (4294967295 - h.toNat) 0 (h.toNat+1) fun h' h1 h2=>hq h' (by omega) (next_none hn (by omega) (by omega))
   rw [Nat.add_zero] at this
   rw [this]
   rfl
  |some m=>
   obtain ⟨g1,g2,g3,g4⟩:=next_gt hn
   dsimp only
   have hm:(UInt32.ofNat m).toNat=m:=by rw [UInt32.toNat_ofNat',Nat.mod_eq_of_lt (by omega)]
   rw [stepL_run f _ _ (by rw [hm];omega),hm]
   have:=runJ_quiet (place:=place) (far:=far) (j:=sentJ h far j) (m - h.toNat - 1) (4294967296 - m) (h.toNat+1) fun h' h1 h2=>hq h' (by omega) (next_some hn (by omega) (by omega))
   rw [show m - h.toNat - 1+(4294967296 - m)=4294967295 - h.toNat by omega,show h.toNat+1+(m - h.toNat - 1)=m by omega] at this
   exact this.symm
theorem stepsP_run (place far:Int) (j:JobP) (ht:UInt32):stepsP place far j ht=runJ place far (4294967295 - ht.toNat) (ht.toNat+1) j:=by
 have hlt:=ht.toNat_lt
 unfold stepsP
 by_cases h:ht.toNat=4294967295
 ·rw [if_pos h,h]
  rfl
 ·have h1:(ht+1).toNat=ht.toNat+1:=by
   rw [UInt32.toNat_add]
   have:(1:UInt32).toNat=1:=rfl
   rw [this]
   omega
  rw [if_neg h,stepL_run _ _ _ (by omega),h1,show 4294967296 - (ht.toNat+1)=4294967295 - ht.toNat by omega]
abbrev PlJ:=Int×JobP
def placed (l:List JobP):List PlJ:=l.zipIdx.map fun p=>((p.2:Int),p.1)
theorem placed_snd (l:List JobP):(placed l).map (·.2)=l:=by
 unfold placed
 rw [List.map_map]
 show List.map (fun x=>x.1) l.zipIdx=l
 exact List.zipIdx_map_fst 0 l
def advJ (far:Int) (h:Nat) (l:List PlJ):List PlJ:=l.map fun p=>(p.1,sentJ (UInt32.ofNat h) far p.2)
def outJ (far:Int) (h:Nat) (l:List PlJ):List StpP:=l.filterMap fun p=>stpO p.1 far (UInt32.ofNat h) p.2
def runA (far:Int):Nat→Nat→List PlJ→List StpP
 |0,_,_=> []
 |k+1,h,l=>outJ far h l++runA far k (h+1) (advJ far h l)
def endA (far:Int):Nat→Nat→List PlJ→List PlJ
 |0,_,l=>l
 |k+1,h,l=>endA far k (h+1) (advJ far h l)
theorem runA_add (far:Int):∀(a b h:Nat) (l:List PlJ),runA far (a+b) h l=runA far a h l++runA far b (h+a) (endA far a h l)
 |0,b,h,l=>by rw [Nat.zero_add];rfl
 |a+1,b,h,l=>by
  rw [show a+1+b=(a+b)+1 by omega]
  show outJ far h l++runA far (a+b) (h+1) (advJ far h l)=(outJ far h l++runA far a (h+1) (advJ far h l))++runA far b (h+(a+1)) (endA far a (h+1) (advJ far h l))
  rw [runA_add far a b,List.append_assoc,show h+1+a=h+(a+1) by omega]
theorem endA_succ (far:Int):∀(a h:Nat) (l:List PlJ),endA far (a+1) h l=advJ far (h+a) (endA far a h l)
 |0,h,l=>rfl
 |a+1,h,l=>by
  show endA far (a+1) (h+1) (advJ far h l)=advJ far (h+(a+1)) (endA far a (h+1) (advJ far h l))
  rw [endA_succ far a,show h+1+a=h+(a+1) by omega]
theorem runA_succ (far:Int) (a h:Nat) (l:List PlJ):runA far (a+1) h l=runA far a h l++outJ far (h+a) (endA far a h l):=by
 rw [runA_add]
 show _++(_++ [])=_
 rw [List.append_nil]
theorem flat_pair {α β:Type} (l:List α) (f g:α→List β):(l.flatMap fun x=>f x++g x).Perm (l.flatMap f++l.flatMap g):=by
 induction l with
 |nil=>exact .refl _
 |cons x l ih=>
  simp only [List.flatMap_cons]
  rw [List.append_assoc,List.append_assoc]
  refine List.Perm.append_left (f x) ?_
  refine (List.Perm.append_left (g x) ih).trans ?_
  rw [←List.append_assoc,←List.append_assoc]
  exact List.Perm.append_right _ List.perm_append_comm
theorem flat_opt {α β:Type} (l:List α) (f:α→Option β):(l.flatMap fun x=>(f x).toList)=l.filterMap f:=by
 induction l with
 |nil=>rfl
 |cons x l ih=>
  rw [List.flatMap_cons,ih,List.filterMap_cons]
  cases f x<;>rfl
theorem runA_jobs (far:Int):∀(k h:Nat) (l:List PlJ),(l.flatMap fun p=>runJ p.1 far k h p.2).Perm (runA far k h l)
 |0,h,l=>by
  show (l.flatMap fun _=> []).Perm []
  rw [show (l.flatMap fun _=>([]:List StpP))= [] by simp]
 |k+1,h,l=>by
  refine (flat_pair l (fun p=>(stpO p.1 far (UInt32.ofNat h) p.2).toList) (fun p=>runJ p.1 far k (h+1) (sentJ (UInt32.ofNat h) far p.2))).trans ?_
  show ((l.flatMap fun p=>(stpO p.1 far (UInt32.ofNat h) p.2).toList)++l.flatMap fun p=>runJ p.1 far k (h+1) (sentJ (UInt32.ofNat h) far p.2)).Perm (outJ far h l++runA far k (h+1) (advJ far h l))
  rw [flat_opt]
  refine List.Perm.append_left _ ?_
  have:=runA_jobs far k (h+1) (advJ far h l)
  unfold advJ at this
  rw [List.flatMap_map] at this
  exact this
def ltP (a b:StpP):Prop:=a.sub.height.toNat < b.sub.height.toNat∨a.sub.height.toNat=b.sub.height.toNat∧a.place < b.place
theorem outJ_at {far:Int} {h:Nat} {l:List PlJ} {s:StpP} (hs:s∈outJ far h l):s.sub.height=UInt32.ofNat h:=by
 obtain ⟨p,_,hp⟩:=List.mem_filterMap.1 hs
 exact (stpO_at hp).2.1
theorem runA_at {far:Int} {s:StpP}:∀{k h:Nat} {l:List PlJ},s∈runA far k h l→h+k≤4294967296→h≤s.sub.height.toNat∧s.sub.height.toNat < h+k
 |0,h,l,hs,_=>by cases hs
 |k+1,h,l,hs,hk=>by
  rcases List.mem_append.1 hs with h1|h1
  ·rw [outJ_at h1,UInt32.toNat_ofNat',Nat.mod_eq_of_lt (by omega)]
   omega
  ·have:=runA_at h1 (by omega)
   omega
theorem advJ_places (far:Int) (h:Nat) (l:List PlJ):(advJ far h l).map (·.1)=l.map (·.1):=by
 unfold advJ
 rw [List.map_map]
 rfl
theorem outJ_sorted {far:Int} {h:Nat} {l:List PlJ} (hl:(l.map (·.1)).Pairwise (· < ·)):(outJ far h l).Pairwise ltP:=by
 unfold outJ
 rw [List.pairwise_filterMap]
 rw [List.pairwise_map] at hl
 refine hl.imp ?_
 intro a b hab x hx y hy
 obtain ⟨a1,a2,_⟩:=stpO_at hx
 obtain ⟨b1,b2,_⟩:=stpO_at hy
 right
 rw [a1,a2,b1,b2]
 exact ⟨rfl,hab⟩
theorem runA_sorted {far:Int}:∀{k h:Nat} {l:List PlJ},(l.map (·.1)).Pairwise (· < ·)→h+k≤4294967296→(runA far k h l).Pairwise ltP
 |0,h,l,_,_=>.nil
 |k+1,h,l,hl,hk=>by
  refine List.pairwise_append.2 ⟨outJ_sorted hl,runA_sorted (by rw [advJ_places];exact hl) (by omega),fun x hx y hy=>?_⟩
  have h1:=runA_at hy (by omega)
  left
  rw [outJ_at hx,UInt32.toNat_ofNat',Nat.mod_eq_of_lt (by omega)]
  omega
theorem placed_sorted (l:List JobP):((placed l).map (·.1)).Pairwise (· < ·):=by
 unfold placed
 rw [List.map_map]
 show (List.map (fun p:JobP×Nat=>(p.2:Int)) l.zipIdx).Pairwise _
 rw [List.pairwise_map]
 have h1:(l.zipIdx.map (·.2)).Pairwise (· < ·):=by
  rw [List.zipIdx_map_snd]
  exact List.pairwise_lt_range'
 rw [List.pairwise_map] at h1
 exact h1.imp fun hab=>by omega
theorem perm_sorted {β:Type} {le lt:β→β→Prop} (hx:∀a b,lt a b→¬le b a):∀{l1 l2:List β},l1.Perm l2→l1.Pairwise le→l2.Pairwise lt→l1=l2
 | [],l2,hp,_,_=>(List.Perm.nil_eq hp)
 |x::xs, [],hp,_,_=>by cases hp.eq_nil
 |x::xs,y::ys,hp,h1,h2=>by
  have e:x=y:=by
   rcases List.mem_cons.1 (hp.mem_iff.1 (List.mem_cons_self ..)) with e|hm
   ·exact e
   ·rcases List.mem_cons.1 (hp.mem_iff.2 (List.mem_cons_self (a:=y))) with e|hm'
    ·exact e.symm
    ·exact absurd ((List.pairwise_cons.1 h1).1 y hm') (hx _ _ ((List.pairwise_cons.1 h2).1 x hm))
  subst e
  rw [perm_sorted hx (List.Perm.cons_inv hp) (List.pairwise_cons.1 h1).2 (List.pairwise_cons.1 h2).2]
def planA (far:Int) (ht:UInt32) (l:List JobP):List StpP:=runA far (4294967295 - ht.toNat) (ht.toNat+1) (placed l)
def planB (far:Int) (ht:UInt32) (l:List JobP) (n:Nat):List StpP:=runA far (min n (4294967295 - ht.toNat)) (ht.toNat+1) (placed l)
def stepsA (far:Int) (ht:UInt32) (l:List JobP):List StpP:=(placed l).flatMap fun p=>stepsP p.1 far p.2 ht
theorem plan_sorted {far:Int} {ht:UInt32} {l:List JobP} {R:List Stp} (hp:(R.map Stp.p).Perm (stepsA far ht l)) (hs:Srt cmpS R):R.map Stp.p=planA far ht l:=by
 have hlt:=ht.toNat_lt
 have h1:(R.map Stp.p).Pairwise fun a b=>¬ltP b a:=by
  rw [List.pairwise_map]
  refine hs.imp ?_
  intro a b hab hlt
  refine hab ?_
  unfold cmpS
  rw [if_pos (show b.sub.height.toNat < a.sub.height.toNat∨b.sub.height.toNat=a.sub.height.toNat∧b.place < a.place from hlt)]
  omega
 have h2:stepsA far ht l=(placed l).flatMap fun p=>runJ p.1 far (4294967295 - ht.toNat) (ht.toNat+1) p.2:=by
  unfold stepsA
  congr 1
  funext p
  exact stepsP_run _ _ _ _
 exact perm_sorted (fun a b hab hn=>hn hab) (hp.trans (h2▸runA_jobs _ _ _ _)) h1 (runA_sorted (placed_sorted l) (by omega))
theorem planA_cut (far:Int) (ht:UInt32) (l:List JobP) (n:Nat):∃r,planA far ht l=planB far ht l n++r∧(∀s∈planB far ht l n,s.sub.height.toNat≤ht.toNat+n)∧∀s∈r,ht.toNat+n < s.sub.height.toNat:=by
 have hlt:=ht.toNat_lt
 obtain ⟨m,hm⟩:∃m,min n (4294967295 - ht.toNat)=m:=⟨_,rfl⟩
 refine ⟨runA far (4294967295 - ht.toNat - m) (ht.toNat+1+m) (endA far m (ht.toNat+1) (placed l)),?_,fun s hs=>?_,fun s hs=>?_⟩
 ·unfold planA planB
  rw [hm,←runA_add,show m+(4294967295 - ht.toNat - m)=4294967295 - ht.toNat by omega]
 ·unfold planB at hs
  rw [hm] at hs
  have:=runA_at hs (by omega)
  omega
 ·have:=runA_at hs (by omega)
  by_cases hnn:n≤4294967295 - ht.toNat
  ·omega
  ·rw [show 4294967295 - ht.toNat - m=0 by omega] at hs
   cases hs
end Go.Proofs.YteabebmlclgakaaGreat
/- Sort0: arrays and rows; swaps; lengths in bits. No condition. -/
namespace Go.Proofs.YteabebmlclgakaaGreat
open Go.RowKit
section
variable {α : Type} [Inhabited α]
end
section
variable {α : Type} {S : Nat → Prop} {w0 w : World} {rs : List Res} {enc : α → List Value} {e : TypeId} {sz : Nat} {s : Sl α}
theorem st_ownx {a:Addr} {vs:List Value} {k:World→Prop} (h:Hp S w0 w rs) (j:Nat) (hj:rs[j]? =some (rowR e sz enc s)) {b ofs:Nat} (hA:s.A=some ⟨b,ofs,none⟩) (i:Nat) (ha:a=⟨b,ofs+i*sz,none⟩) (x':α) (hv:vs=enc x')
  (hi:i < s.l.length) (hs:∀x:α,(enc x).length=sz) (h1:(enc x').all Value.oneCell'=true) (hk:∀w',Hp S w0 w' (rs.set j (rowR e sz enc ⟨s.A,s.c,s.l.set i x'⟩))→k w'):St w a vs k:=by
 subst hv
 refine st_own h j hj hA i 0 (by rw [ha];rfl) (List.getElem?_eq_getElem hi) x' ?_ (by rw [hs,Nat.zero_add];exact Nat.le_refl _) h1 hk
 have key:∀(vs cs:List Value),cs.length=vs.length→layL vs 0 cs=vs:=by
  intro vs cs hl
  have:=layL_app vs [] cs [] hl
  simpa using this
 exact (key _ _ (by rw [hs,hs])).symm
end
section
variable {P : Program} {w : World} {ρ : Operand → Value} {o : Oper} {g : Value → World → Prop} {t : TypeId} {x i : Operand}
end
section
variable {α : Type} [Inhabited α] {lt : α → α → Bool} {d : Array α}
end
end Go.Proofs.YteabebmlclgakaaGreat
