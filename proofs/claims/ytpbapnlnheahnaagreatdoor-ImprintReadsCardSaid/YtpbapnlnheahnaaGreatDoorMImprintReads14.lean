/- MImprintReads14: parts of the proof of ImprintReads: Rf, Met, Flt, Eq, Keys, KeyK. No condition of their own. -/
import Derived.Test.YtpbapnlnheahnaaGreatDoorMImprintReads4
import Derived.RangeFuncSeq
import Derived.Test.YtpbapnlnheahnaaGreatDoorMImprintReadssSlice
import Derived.Test.YtpbapnlnheahnaaGreatDoorMImprintReads6
import Derived.DeepKeys3
set_option linter.unusedSimpArgs false
set_option linter.unusedVariables false
namespace Go.Proofs.YtpbapnlnheahnaaGreatDoor
open Go.RowKit
def objR (b:Nat) (o:Obj):Res where
 dom x:=x=b
 ok w:=w.heap[b]? =some o
 lt w h x hx:=by subst hx;exact heap_lt h
 loc w w' h hk:=(h b rfl).trans hk
theorem objR_ok {b:Nat} {o:Obj} {w:World}:(objR b o).ok w↔w.heap[b]? =some o:=Iff.rfl
theorem objR_dom {b x:Nat} {o:Obj}:(objR b o).dom x↔x=b:=Iff.rfl
section
variable {P : Program} {S : Nat → Prop} {w0 w w' : World} {rs : List Res} {j : Nat}
theorem Chg.putObj (w:World) (l:Nat) (o:Obj):Chg (fun x=>x=l) w (w.putObj l o):=⟨rfl,rfl,rfl,Nat.le_of_eq World.putObj_size.symm,fun _ _ hn=>World.putObj_heap_other hn⟩
theorem Hp.putObj {b:Nat} {o:Obj} (h:Hp S w0 w rs) (hj:rs[j]? =some (objR b o)) (o':Obj):Hp S w0 (w.putObj b o') (rs.set j (objR b o')):=
 h.mut hj ((Chg.putObj w b o').mono fun _ _ hh=>objR_dom.2 hh) (objR_ok.2 (World.putObj_heap_same (heap_lt (objR_ok.1 (h.get hj))))) fun _ hb=>.inl (objR_dom.2 (objR_dom.1 hb))
theorem td_id {D:Nat} {k:World→Prop} (h:Td w D k):Td w D k:=h
theorem td_hs {D:Nat} {k:World→Prop} (h:Hp S w0 w rs) (j:Nat) (hj:rs[j]? =some (objR D (.deferred (some [])))) (hk:∀w',Hp S w0 w' (rs.set j (objR D (.deferred none)))→k w'):Td w D k:=
 ⟨objR_ok.1 (h.get hj),hk _ (h.putObj hj _)⟩
theorem Hp.fold1 (h:Hp S w0 w rs):Hp S w0 w [star rs]:=by
 have:=h.fold rs.length
 rwa [List.take_length,List.drop_length] at this
theorem Hp.unfold1 (h:Hp S w0 w [star rs]):Hp S w0 w rs:=by
 have:=h.unfold
 rwa [List.append_nil] at this
end
structure Iter (P:Program) (T:Nat→Prop) (gf:Nat) (lb:Array Value) {α:Type} (enc:α→Array Value) (xs:List α) (W0:World):Prop where
 out:∀(l:Nat) (R X:Nat→Res→Prop) (r0:Res),R 0 r0→r0.ok W0→(∀b,r0.dom b→¬T b)→
  (∀i x W r,R i r→xs[i]? =some x→Mut r0 r W0 W→YieldAt Fence.wide 0 P l (enc x) W fun e W'=>
   (e= .returned (.bool true)∧∃r',R (i+1) r'∧Mut r r' W W')∨(e= .returned (.bool false)∧∃r',X i r'∧Mut r r' W W'))→
  Calls P gf (#[.func (.yield l) #[] #[]]++lb) W0 fun e W'=>(∃v,e= .returned v)∧((∃r',R xs.length r'∧Mut r0 r' W0 W')∨∃i r',i < xs.length∧X i r'∧Mut r0 r' W0 W')
theorem yl_of {P:Program} {l:Nat} {args args':Array Value} {w:World} {k:Value→World→Prop} {R:Ending→World→Prop} (h:YieldAt Fence.wide 0 P l args' w R) (ea:args=args') (hk:∀e w',R e w'→∃v,e= .returned v∧k v w'):Yl P l args w k:=by
 subst ea
 obtain ⟨fn,tmps,assign,body,h1,h2⟩:=h
 exact ⟨fn,tmps,assign,body,h1,h2.mono hk⟩
structure Bo (A:World→Prop) (w:World):Prop where
 out:A w
theorem bo {A:World→Prop} {w:World} (h:A w):Bo A w:=⟨h⟩
def kBody (A:World→Prop) (B:Exit→World→Prop):Exit→Env→World→Prop
 | .normal,_,w=>Bo A w
 | .panic _,_,_=>False
 | .outgrown,_,_=>False
 |ex,_,w=>Bo (B ex) w
structure Bg (L:Nat) (o o':Obj) (w:World) (k:World→Prop):Prop where
 out:w.heap[L]? =some o∧k (w.putObj L o')
theorem bg_hs {S:Nat→Prop} {w0 w:World} {rs:List Res} {L:Nat} {o o':Obj} {k:World→Prop} (h:Hp S w0 w rs) (j:Nat) (hj:rs[j]? =some (objR L o)) (hk:∀w',Hp S w0 w' (rs.set j (objR L o'))→k w'):Bg L o o' w k:=⟨objR_ok.1 (h.get hj),hk _ (h.putObj hj _)⟩
theorem bg_id {L:Nat} {o o':Obj} {w:World} {k:World→Prop} (h:Bg L o o' w k):Bg L o o' w k:=h
def kAsg (L:Nat) (o o':Obj) (k:Env→World→Prop):Exit→Env→World→Prop
 | .normal,e,w=>Bg L o o' w (k e)
 |_,_,_=>False
abbrev lpR (L D:Nat) (o:Obj) (rs:List Res):List Res:=objR L o::objR D (.deferred (some []))::rs
noncomputable def eatL (l:List (Nat×Value)) (e:Env):Env:=List.rec (motive:=fun _=>Env→Env) (fun e=>e) (fun p _ ih e=>ih (eup e (some p.1) p.2)) l e
theorem eatL_rel {n:Nat}:∀(l:List (Nat×Value)) (e:Env) (tmps:Array Value) (ds:List Deferred),Rel n e {tmps:=tmps,defers:=ds}→Rel n (eatL l e) {tmps:=l.foldl (fun t p=>t.setIfInBounds p.1 p.2) tmps,defers:=ds}
 | [],e,tmps,ds,h=>h
 |(d,v)::r,e,tmps,ds,h=>eatL_rel r (eup e (some d) v) _ ds (h.put (some d) v)
def jumpOf:Exit→Option Code
 | .ret=>some .ret
 | .exit id=>some (.exit id)
 | .goto t=>some (.goto t)
 |_=>none
theorem jump_wp {P:Program} {n:Nat} {K:Exit→Env→World→Prop} {ex:Exit} {c:Code} (hc:jumpOf ex=some c) {e:Env} {a:Act} {w:World} (hr:Rel n e a) (h:K ex e w):c.wpIn (FW none) 0 P (QX n K) a w:=by
 cases ex<;>simp [jumpOf] at hc<;>subst hc
 ·exact wpIn_exit ⟨e,hr,h⟩
 ·exact wpIn_goto ⟨e,hr,h⟩
 ·exact wpIn_ret ⟨e,hr,h⟩
theorem enters {P:Program} {T:Tb} (hT:TabOk P T) {f:Nat} (h:T.fn.get f=some ()) (args:Array Value) (w:World):(callFunc f args).run P w= .ok (.enter f args) w:=by
 obtain ⟨fn,body,hfn,hbody,hname⟩:=hT.func h
 simp [callFunc,program,Sem.run,hfn,hbody,beq_eq_false_iff_ne.1 hname]
theorem zip1 (p:Tmp) (v:Value):((#[p]:Array Tmp).zip #[v]).toList= [(p,v)]:=by simp
theorem rf_iter {P:Program} {n:Nat} {g:Operand} {ps:Array Tmp} {assign body:Code} {xa x:XC} {K:Exit→Env→World→Prop} {e:Env} {S:Nat→Prop} {w0 w:World} {rs:List Res} (hp:Hp S w0 w rs)
  {gf:Nat} {lb:Array Value} {α:Type} {enc:α→Array Value} {xs:List α} {T:Nat→Prop} (hfa:flat assign=true) (hfl:flat body=true) (hg:ev n e g= .func (.func gf) #[] lb) (hgf:∀args w,(callFunc gf args).run P w= .ok (.enter gf args) w) (es:α→List (Nat×Value)) (hps:∀y,(enc y).size=ps.size) (hes:∀y,(ps.zip (enc y)).toList=es y)
  (hT:∀b,T b→b < w.heap.size∧∀r∈rs,¬r.dom b) (hit:∀w1,Chg N0 w w1→Iter P T gf lb enc xs w1) (rsI:Nat→List Res→Prop) (h0:rsI 0 rs) (jx:Exit) (hjx:∃c,jumpOf jx=some c) (rsX:Nat→List Res→Prop)
  (hbody:∀i y L D o o' W q,rsI i q→xs[i]? =some y→Chg S w0 W→(∀b,(star (lpR L D o q)).dom b→S b∨w0.heap.size≤b)→Hp (star (lpR L D o q)).dom W W (lpR L D o q)→
   xa (kAsg L o o' (x (kBody (fun W'=>∃q',rsI (i+1) q'∧Hp (star (lpR L D o q)).dom W W' (lpR L D o' q')) (fun ex W'=>ex=jx∧∃q',rsX i q'∧Hp (star (lpR L D o q)).dom W W' (lpR L D o' q'))))) (eatL (es y) ⟨e.f, []⟩) W)
  (hdone:∀L D o W q,rsI xs.length q→Hp S w0 W (lpR L D o q)→K .normal ⟨e.f,D::e.ds⟩ W)
  (hstop:∀i L D o W q,i < xs.length→rsX i q→Hp S w0 W (lpR L D o q)→K jx ⟨e.f,D::e.ds⟩ W):Rf P n g ps assign body xa x K e w:=by
 refine ⟨fun hxa hx a hr=>?_⟩
 refine wpIn_rangeFunc fun fn _=>?_
 obtain ⟨rec,hrec⟩:∃rec:LoopState→Option Code→Loop,rec=fun st pe=>{state:=st,pending:=pe,fn,tmps:=a.tmps,params:=ps,assign,body,defers:=w.heap.size}:=⟨_,rfl⟩
 obtain ⟨L,hL⟩:∃L,L=w.heap.size+1:=⟨_,rfl⟩
 obtain ⟨D,hD⟩:∃D,D=w.heap.size:=⟨_,rfl⟩
 obtain ⟨W1,hW1⟩:∃W1,(w.alloc (.deferred (some []))).alloc (.loop (rec .ready none))=W1:=⟨_,rfl⟩
 have hc1:Chg N0 w W1:=by rw [←hW1];exact ((Chg.refl _ _).alloc _).alloc _
 have hp1:Hp S w0 W1 (lpR L D (.loop (rec .ready none)) rs):=by
  rw [hL,hD,←hW1]
  have h1:Hp S w0 (w.alloc (.deferred (some []))) (objR w.heap.size (.deferred (some []))::rs):=hp.new ((Chg.refl _ _).alloc _) (objR_ok.2 (World.alloc_heap_new w _)) fun b hb=>by rw [objR_dom.1 hb];exact Nat.le_refl _
  refine h1.new ((Chg.refl _ _).alloc _) (objR_ok.2 ?_) fun b hb=>by rw [objR_dom.1 hb,World.size_alloc];exact Nat.le_refl _
  have:=World.alloc_heap_new (w.alloc (.deferred (some []))) (.loop (rec .ready none))
  rwa [World.size_alloc] at this
 refine ⟨L, [dmark D],W1,{target:= .fn (.func gf) lb,args:= #[.func (.yield L) #[] #[]]},W1,gf, #[.func (.yield L) #[] #[]]++lb,W1,?_,?_,fun _ _=>trivial,?_,FW_depth,?_⟩
 ·rw [←hW1,hrec,hL,hD];exact run_enterLoop_outer _ _ _ _ _
 ·simp only [resolve,hr.eval,hg]
  simp [go_sem]
 ·simp [invoke,go_sem,hgf]
 ·have hpS:=hp1.fold1
  refine callsFW (Calls.mono ((hit W1 hc1).out L (fun i r=>∃q,rsI i q∧r=star (lpR L D (.loop (rec .ready none)) q)) (fun i r=>∃q,rsX i q∧r=star (lpR L D (.loop (rec .done (jumpOf jx))) q)) (star (lpR L D (.loop (rec .ready none)) rs)) ⟨rs,h0,rfl⟩ (hpS.get (j:=0) rfl) ?_ ?_) ?_)
  ·intro b hb hTb
   obtain ⟨r,hr1,hr2⟩:=star_dom.1 hb
   obtain ⟨h1,h2⟩:=hT b hTb
   rcases List.mem_cons.1 hr1 with rfl|hr1
   ·have:=objR_dom.1 hr2;omega
   rcases List.mem_cons.1 hr1 with rfl|hr1
   ·have:=objR_dom.1 hr2;omega
   exact h2 r hr1 hr2
  ·rintro i y W _ ⟨q,hq,rfl⟩ hy m
   have hok:=star_ok.1 m.ok
   have hLW:W.heap[L]? =some (.loop (rec .ready none)):=objR_ok.1 (hok.1 _ (List.mem_cons_self ..))
   have hrun:=run_yield (P:=P) (args:=enc y) hLW (by rw [hrec];exact hps y)
   obtain ⟨ob,hob⟩:∃ob,ob=Obj.loop {rec .ready none with state:= .busy}:=⟨_,rfl⟩
   have hpW:Hp S w0 W (lpR L D (.loop (rec .ready none)) q):=by
    have h1:=(hpS.via (j:=0) rfl m)
    have h2:Hp S w0 W [star (lpR L D (.loop (rec .ready none)) q)]:=h1
    exact h2.unfold1
   have hrel:Rel n (eatL (es y) ⟨e.f, []⟩) {tmps:=(es y).foldl (fun t p=>t.setIfInBounds p.1 p.2) a.tmps,defers:= []}:=eatL_rel _ _ _ _ ⟨rfl,hr.2.1,hr.2.2⟩
   have hact:({tmps:=(ps.zip (enc y)).foldl (fun tmps (p:Tmp×Value)=>tmps.setIfInBounds p.1 p.2) a.tmps,defers:= []}:Act)={tmps:=(es y).foldl (fun t p=>t.setIfInBounds p.1 p.2) a.tmps,defers:= []}:=by
    rw [←hes y,←Array.foldl_toList]
   have hb:=hxa _ _ _ W L hfa (hact▸hrel) (hbody i y L D (.loop (rec .ready none)) ob W q hq hy hpW.chg (fun b hb=>by
    obtain ⟨r,hr1,hr2⟩:=star_dom.1 hb
    exact hpW.own r hr1 b hr2) (Hp.open m.ok))
   refine ⟨fn,_,assign,body,by rw [hrec] at hrun;exact hrun,roundIn_of_wpIn trivial (wpIn_mono (show assign.wpIn (FW (some L)) 0 P _ _ W from hb) ?_)⟩
   rintro ex1 a1 W1' ⟨e1,hr1,hk1⟩
   cases ex1<;>try exact hk1.elim
   obtain ⟨hL1,hk1⟩:=hk1.out
   refine ⟨_,by have:=run_beginRound (P:=P) hL1 (by rw [hrec]);rw [←hob] at this;exact this,?_⟩
   have fin:∀(W3:World) (rs3:List Res) (jump:Option Code),Hp (star (lpR L D (.loop (rec .ready none)) q)).dom W W3 (lpR L D ob rs3)→
     (Instr.endRound L jump).run P W3= .ok (.bool jump.isNone) (W3.putObj L (.loop (rec (if jump.isNone then .ready else .done) jump)))∧
     Mut (star (lpR L D (.loop (rec .ready none)) q)) (star (lpR L D (.loop (rec (if jump.isNone then .ready else .done) jump)) rs3)) W (W3.putObj L (.loop (rec (if jump.isNone then .ready else .done) jump))):=fun W3 rs3 jump h3=>by
    have hl3:W3.heap[L]? =some (.loop {rec .ready none with state:= .busy}):=by rw [←hob];exact objR_ok.1 (h3.get (j:=0) rfl)
    have hrun3:=run_endRound (P:=P) jump hl3
    have h6:=h3.putObj (j:=0) rfl (.loop (rec (if jump.isNone then .ready else .done) jump))
    refine ⟨by rw [hrun3];simp only [hrec],h6.shut (List.Sublist.refl _)⟩
   refine wpIn_mono (show body.wpIn (FW (some L)) 0 P _ _ _ from hx _ _ _ _ L hfl hr1 hk1) ?_
   rintro ex a3 W3 ⟨e3,hr3,hk3⟩
   cases ex with
   |normal=>
    obtain ⟨q',hq',hk4⟩:=hk3.out
    obtain ⟨h1,h2⟩:=fin W3 _ none hk4
    exact ⟨_,_,h1, .inl ⟨rfl,_,⟨q',hq',rfl⟩,h2⟩⟩
   |ret=>
    obtain ⟨hj,q',hq',hk4⟩:=hk3.out
    subst hj
    obtain ⟨h1,h2⟩:=fin W3 _ (some .ret) hk4
    exact ⟨_,_,h1, .inr ⟨rfl,_,⟨q',hq',rfl⟩,h2⟩⟩
   |exit id=>
    obtain ⟨hj,q',hq',hk4⟩:=hk3.out
    subst hj
    obtain ⟨h1,h2⟩:=fin W3 _ (some (.exit id)) hk4
    exact ⟨_,_,h1, .inr ⟨rfl,_,⟨q',hq',rfl⟩,h2⟩⟩
   |goto t=>
    obtain ⟨hj,q',hq',hk4⟩:=hk3.out
    subst hj
    obtain ⟨h1,h2⟩:=fin W3 _ (some (.goto t)) hk4
    exact ⟨_,_,h1, .inr ⟨rfl,_,⟨q',hq',rfl⟩,h2⟩⟩
   |panic c=>exact hk3.elim
   |outgrown=>exact hk3.elim
  ·rintro e3 W3 ⟨⟨v,rfl⟩,hm⟩
   have hrel:Rel n ⟨e.f,D::e.ds⟩ {a with defers:= [dmark D]++a.defers}:=⟨by simp [hr.1],hr.2.1,hr.2.2⟩
   rcases hm with ⟨_,⟨q,hq,rfl⟩,m⟩|⟨i,_,hi,⟨q,hq,rfl⟩,m⟩
   ·have h1:Hp S w0 W3 [star (lpR L D (.loop (rec .ready none)) q)]:=hpS.via (j:=0) rfl m
    have h2:=h1.unfold1
    have hl3:W3.heap[L]? =some (.loop (rec .ready none)):=objR_ok.1 (h2.get (j:=0) rfl)
    have hpe:(rec .ready none).pending=none:=by rw [hrec]
    refine ⟨none,_,by have:=run_endLoop (P:=P) hl3 (by rw [hrec];simp);rw [hpe] at this;exact this,?_⟩
    exact ⟨_,hrel,hdone _ _ _ _ _ hq (h2.putObj (j:=0) rfl _)⟩
   ·have h1:Hp S w0 W3 [star (lpR L D (.loop (rec .done (jumpOf jx))) q)]:=hpS.via (j:=0) rfl m
    have h2:=h1.unfold1
    have hl3:W3.heap[L]? =some (.loop (rec .done (jumpOf jx))):=objR_ok.1 (h2.get (j:=0) rfl)
    have hpe:(rec .done (jumpOf jx)).pending=jumpOf jx:=by rw [hrec]
    have hend:=run_endLoop (P:=P) hl3 (by rw [hrec];simp)
    have hk:=hstop i _ _ _ _ _ hi hq (h2.putObj (j:=0) rfl (.loop {rec .done (jumpOf jx) with state:= .exhausted}))
    generalize W3.putObj L (.loop {rec .done (jumpOf jx) with state:= .exhausted})=W4 at hend hk
    rw [hpe] at hend
    refine ⟨jumpOf jx,W4,hend,?_⟩
    cases hj:jumpOf jx with
    |none=>
     obtain ⟨c,hc⟩:=hjx
     rw [hj] at hc
     cases hc
    |some c=>exact jump_wp hj hrel hk
set_option maxRecDepth 100000
set_option maxHeartbeats 2000000
theorem Hp.nilRow {ν:Type} {S:Nat→Prop} {w0 w:World} {rs:List Res} (h:Hp S w0 w rs) (et:TypeId) (sz:Nat) (vc:ν→List Value):Hp S w0 w (rowR et sz vc (Sl.nil:Sl ν)::rs):=
 h.new (Chg.refl _ _) (rowR_ok.2 ⟨World.ownsRow_nil w 0 _ _,by simp [Sl.nil]⟩) fun b hb=>by have h1:=rowR_dom.1 hb;cases h1
theorem lp_share {B:Env→World→(Env→World→Prop)→Prop} {G:Prop} (I:Env→World→Prop) (main:(∀e w,I e w→Lp B e w)→G) (tail:∀e w,I e w→Lp B e w):G:=main tail
theorem Hp.pick {S:Nat→Prop} {w0 w:World} {rs rs':List Res} (h:Hp S w0 w rs) (js:List Nat) (hn:js.Nodup) (he:js.map (fun j=>rs[j]?)=rs'.map some):Hp S w0 w rs':=by
 have hl:js.length=rs'.length:=by have:=congrArg List.length he;simpa using this
 have hat:∀a (ha:a < rs'.length),rs[js[a]'(by omega)]? =some rs'[a]:=fun a ha=>by
  have h1:(js.map (fun j=>rs[j]?))[a]? =(rs'.map some)[a]? :=by rw [he]
  rw [List.getElem?_map,List.getElem?_map,List.getElem?_eq_getElem (show a < js.length by omega),List.getElem?_eq_getElem ha] at h1
  exact Option.some.inj h1
 have hm:∀r∈rs',r∈rs:=fun r hr=>by
  obtain ⟨a,ha,rfl⟩:=List.getElem_of_mem hr
  exact List.mem_of_getElem? (hat a ha)
 refine ⟨h.chg,fun r hr=>h.ok r (hm r hr),List.pairwise_iff_getElem.2 fun a b la lb hab x hx hx'=>?_,fun r hr=>h.own r (hm r hr)⟩
 have h1:=hat a la
 have h2:=hat b lb
 have hne:js[a]'(by omega)≠js[b]'(by omega):=fun e=>by
  have:=(List.getElem_inj hn).1 e
  omega
 obtain ⟨l1,e1⟩:=List.getElem?_eq_some_iff.1 h1
 obtain ⟨l2,e2⟩:=List.getElem?_eq_some_iff.1 h2
 have hs:=List.pairwise_iff_getElem.1 h.sep
 rcases Nat.lt_or_gt_of_ne hne with h3|h3
 ·exact hs _ _ l1 l2 h3 x (by rw [e1];exact hx) (by rw [e2];exact hx')
 ·exact hs _ _ l2 l1 h3 x (by rw [e2];exact hx') (by rw [e1];exact hx)
theorem eq_key (x y:Key):EqIs Tryz.prog 54 x.v y.v (decide (x=y)):=eqis_of (fs:=Tryz.prog.fieldsOf 54) (by kernel_rfl) (by kernel_rfl) fun w=>by
 have h0:=eqf_cons (P:=Tryz.prog) (w:=w) (d:=9999) (xs:= #[u32 x.ses,u32 x.seq]) (ys:= #[u32 y.ses,u32 y.seq]) (f:=((Tryz.prog.fieldsOf 54)[0]?).getD default) (by decide+kernel) (part_word (n:=1) (by kernel_rfl) (v:=u32 x.ses) (by kernel_rfl)) (part_word (n:=1) (by kernel_rfl) (v:=u32 y.ses) (by kernel_rfl))
  (run_equalIn_int w 9998 _ .u32 .u32 _ _ (by kernel_rfl)) (eqf_cons (f:=((Tryz.prog.fieldsOf 54)[1]?).getD default) (by decide+kernel) (part_word (n:=1) (by kernel_rfl) (v:=u32 x.seq) (by kernel_rfl)) (part_word (n:=1) (by kernel_rfl) (v:=u32 y.seq) (by kernel_rfl)) (run_equalIn_int w 9998 _ .u32 .u32 _ _ (by kernel_rfl)) eqf_nil)
 rw [u32_eq,u32_eq] at h0
 have e:(decide (x.ses=y.ses) && (decide (x.seq=y.seq) && true))=decide (x=y):=by
  rw [Bool.eq_iff_iff]
  cases x;cases y
  simp
 rw [e] at h0
 exact h0
abbrev mlk {κ ν:Type} [DecidableEq κ] (l:List (κ×ν)) (k:κ):Option ν:=l.lookup k
theorem lookup_none {κ ν:Type} [DecidableEq κ]:∀{l:List (κ×ν)} {x:κ},x∉l.map (·.1)→l.lookup x=none
 | [],_,_=>rfl
 |p::l,x,h=>by
  have h1:¬x=p.1:=fun e=>h (by simp [e])
  have h2:=lookup_none (l:=l) (x:=x) fun hh=>h (List.mem_cons_of_mem _ hh)
  have hb:(x==p.1)=false:=by simpa using h1
  rw [List.lookup_cons,hb]
  exact h2
theorem lookup_mapput {κ ν:Type} [DecidableEq κ] (k:κ) (v:ν) (x:κ):∀l:List (κ×ν),(l.map fun p=>if p.1=k then (k,v) else p).lookup x=if x=k then (if k∈l.map (·.1) then some v else none) else l.lookup x
 | []=>by simp
 |p::l=>by
  have ih:=lookup_mapput k v x l
  rw [List.map_cons,List.lookup_cons,List.lookup_cons]
  by_cases h1:p.1=k
  ·rw [if_pos h1]
   by_cases h2:x=k
   ·simp [h1,h2]
   ·have h3:¬x=p.1:=fun e=>h2 (e.trans h1)
    have hb:(x==p.1)=false:=by simpa using h3
    have hb2:(x==k)=false:=by simpa using h2
    rw [hb,hb2,ih,if_neg h2,if_neg h2]
  ·rw [if_neg h1,ih]
   by_cases h2:x=k
   ·subst h2
    have h3:¬x=p.1:=fun e=>h1 e.symm
    have hb:(x==p.1)=false:=by simpa using h3
    rw [hb,if_pos rfl,if_pos rfl]
    have hi:x∈(p::l).map (·.1)↔x∈l.map (·.1):=by simp [h3]
    by_cases hm:x∈l.map (·.1)
    ·rw [if_pos (hi.2 hm)]
     simp only
     rw [if_pos hm]
    ·rw [if_neg fun hh=>hm (hi.1 hh)]
     simp only
     rw [if_neg hm]
   ·rw [if_neg h2,if_neg h2]
theorem lookup_mput {κ ν:Type} [DecidableEq κ] (l:List (κ×ν)) (k:κ) (v:ν) (x:κ):(mput l k v).lookup x=if x=k then some v else l.lookup x:=by
 unfold mput
 split
 ·rename_i h
  rw [lookup_mapput,if_pos h]
 ·rename_i h
  rw [List.lookup_append]
  by_cases h2:x=k
  ·subst h2
   rw [lookup_none h]
   simp
  ·have:([(k,v)]:List (κ×ν)).lookup x=none:=by simp [h2]
   rw [this]
   simp [h2]
theorem mapM_has {α β:Type} {f:α→Option β}:∀(l:List α),(∀x∈l,∃y,f x=some y)→∃r,l.mapM f=some r
 | [],_=>⟨[],rfl⟩
 |x::l,h=>by
  obtain ⟨y,hy⟩:=h x (by simp)
  obtain ⟨r,hr⟩:=mapM_has l fun z hz=>h z (by simp [hz])
  exact ⟨y::r,by simp [List.mapM_cons,hy,hr]⟩
theorem keyLits_u8s {P:Program} {t e:TypeId} {n d:Nat} (ht:P.underlying t=some (.array n e)) (he:P.underlying e=some (.int .u8)) (hc:P.cellsOf e=1) (hn:P.cellsOf t=n) (l:List UInt8) (hl:l.length=n):∃L,P.keyLits (d+2) t (l.map u8)=some L:=by
 have h1:∃r,((List.range n).mapM fun i=>P.keyLits (d+1) e (((l.map u8).drop (i*P.cellsOf e)).take (P.cellsOf e)))=some r:=mapM_has _ fun i hi=>by
  have hi':i < l.length:=by rw [hl];exact List.mem_range.1 hi
  have h2:((l.map u8).drop (i*P.cellsOf e)).take (P.cellsOf e)= [u8 l[i]]:=by
   rw [hc,Nat.mul_one,List.drop_eq_getElem_cons (by simpa using hi')]
   simp
  have hw:(Lit.int .u8 (l[i].toNat:Int)).wf=true:=by
   have:=l[i].toNat_lt
   simp [Lit.wf,IntKind.min,IntKind.max,IntKind.signed,IntKind.bits]
   omega
  rw [h2]
  exact ⟨[.int .u8 l[i].toNat],by simp [Program.keyLits,he,hw]⟩
 obtain ⟨r,hr⟩:=h1
 refine ⟨r.flatten,?_⟩
 have hlen:(l.map u8).length=P.cellsOf t:=by simp [hl,hn]
 unfold Program.keyLits
 rw [ht]
 cases hcs:l.map u8 with
 |nil=>rw [hcs] at hr hlen;simp only [hlen,if_true,hr,Option.map_some]
 |cons c cs=>rw [hcs] at hr hlen;simp only [hlen,if_true,hr,Option.map_some]
theorem id_law:Maps.Keyed Tryz.prog 48:=Maps.Keyed.of_law (deep_law (m:=3) (by omega) (by kernel_rfl) (by kernel_rfl) (by kernel_rfl))
theorem Id.inj {x y:Id} (h:x.v=y.v):x=y:=by
 have h1:x.c.toArray=y.c.toArray:=by injection h
 rw [←Id.cells,←Id.cells] at h1
 have h2:x.toList.map Extern.Stop.cell=y.toList.map Extern.Stop.cell:=by simpa using h1
 have h3:x.toList=y.toList:=by
  have hinj:∀a b:UInt8,Extern.Stop.cell a=Extern.Stop.cell b→a=b:=fun a b hh=>by
   simp [Extern.Stop.cell] at hh
   exact UInt8.toNat_inj.1 (by omega)
  exact List.map_inj_right hinj |>.1 h2
 exact Vector.toList_inj.1 h3
theorem idK:KEnc Tryz.prog 48 Id.v where
 law:=id_law
 reads x:=by
  obtain ⟨L,hL⟩:=keyLits_u8s (P:=Tryz.prog) (t:=48) (e:=5) (n:=32) (d:=Tryz.prog.types.size - 1) (by kernel_rfl) Tryz.underlying5 (by kernel_rfl) (by kernel_rfl) x.toList (by simp)
  have h1:x.v.cells.toList=x.toList.map u8:=by
   have:=congrArg Array.toList (Id.cells x)
   rw [List.toList_toArray,List.toList_toArray] at this
   exact this.symm
  have h2:Tryz.prog.types.size - 1+2=Tryz.prog.types.size+1:=by kernel_rfl
  rw [h2] at hL
  refine ⟨.string (keyBytes L),?_⟩
  have ht:Tryz.prog.underlying 48=some (.array 32 5):=by kernel_rfl
  have hk:(Tryz.prog.keyType 48 && x.v.formed Tryz.prog 48)=true:=by kernel_rfl
  unfold keyOf
  rw [ht]
  simp only
  rw [if_pos hk,h1,hL]
  rfl
 inj h:=Id.inj h
theorem key_law:Maps.Keyed Tryz.prog 54:=Maps.Keyed.of_law (deep_law (m:=3) (by omega) (by kernel_rfl) (by kernel_rfl) (by kernel_rfl))
theorem keyK:KEnc Tryz.prog 54 Key.v where
 law:=key_law
 reads x:=by
  have h1:∀(x:UInt32) (d:Nat),Tryz.prog.keyLits (d+1) 24 [u32 x]=some [.int .u32 x.toNat]:=fun x d=>by
   have hw:(Lit.int .u32 (x.toNat:Int)).wf=true:=by
    have:=x.toNat_lt
    simp [Lit.wf,IntKind.min,IntKind.max,IntKind.signed,IntKind.bits]
    omega
   simp [Program.keyLits,Tryz.underlying24,hw]
  have hf:(Tryz.prog.fieldsOf 54).toList= [((Tryz.prog.fieldsOf 54)[0]?).getD default,((Tryz.prog.fieldsOf 54)[1]?).getD default]:=by kernel_rfl
  have ht:Tryz.prog.underlying 54=some (.struct (Tryz.prog.fieldsOf 54)):=by kernel_rfl
  have h2:∃L,Tryz.prog.keyLits (Tryz.prog.types.size+1) 54 [u32 x.ses,u32 x.seq]=some L:=by
   obtain ⟨r,hr⟩:=mapM_has (f:=fun f:Field=>Tryz.prog.keyLits (Tryz.prog.types.size) f.type (([u32 x.ses,u32 x.seq].drop f.offset).take (Tryz.prog.cellsOf f.type))) (Tryz.prog.fieldsOf 54).toList fun f hm=>by
    have hsz:Tryz.prog.types.size=(Tryz.prog.types.size - 1)+1:=by kernel_rfl
    rw [hf] at hm
    rcases List.mem_cons.1 hm with rfl|hm
    ·refine ⟨[.int .u32 x.ses.toNat],?_⟩
     rw [hsz,←h1 x.ses (Tryz.prog.types.size - 1)]
     rfl
    ·rcases List.mem_cons.1 hm with rfl|hm
     ·refine ⟨[.int .u32 x.seq.toNat],?_⟩
      rw [hsz,←h1 x.seq (Tryz.prog.types.size - 1)]
      rfl
     ·cases hm
   refine ⟨r.flatten,?_⟩
   unfold Program.keyLits
   rw [ht]
   simp only
   rw [if_pos ⟨by kernel_rfl,by kernel_rfl⟩,hr]
   rfl
  obtain ⟨L,hL⟩:=h2
  refine ⟨.string (keyBytes L),?_⟩
  have hk:(Tryz.prog.keyType 54 && x.v.formed Tryz.prog 54)=true:=by kernel_rfl
  unfold keyOf
  rw [ht]
  simp only
  rw [if_pos hk]
  show (Tryz.prog.keyLits (Tryz.prog.types.size+1) 54 [u32 x.ses,u32 x.seq]).map _=_
  rw [hL]
  rfl
 inj {x y} h:=by
  have h1: #[u32 x.ses,u32 x.seq]= #[u32 y.ses,u32 y.seq]:=by injection h
  obtain ⟨a,b⟩:=x
  obtain ⟨c,d⟩:=y
  simp only [Array.mk.injEq,List.cons.injEq,and_true,Value.int.injEq,true_and] at h1
  have h2:a=c:=UInt32.toNat_inj.1 (by omega)
  have h3:b=d:=UInt32.toNat_inj.1 (by omega)
  rw [h2,h3]
end Go.Proofs.YtpbapnlnheahnaaGreatDoor
