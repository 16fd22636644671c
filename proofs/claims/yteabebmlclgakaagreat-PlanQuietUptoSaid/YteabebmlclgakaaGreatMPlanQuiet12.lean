/- MPlanQuiet12: SubP, Rf, Keys, KeyK, TailA. -/
import Derived.Test.YteabebmlclgakaaGreatMPlanQuiet11
import Derived.Test.YteabebmlclgakaaGreatMPlanQuiet4
import Derived.RangeFuncSeq
import Derived.DeepKeys3
import Derived.Test.YteabebmlclgakaaGreatMPlanQuietsSlice
set_option linter.unusedSimpArgs false
set_option linter.unusedVariables false
/- SubP: lists of submissions, their bytes told; the document's comparison. No condition. -/
namespace Go.Proofs.YteabebmlclgakaaGreat
open Go.RowKit
set_option maxRecDepth 100000
set_option maxHeartbeats 2000000
structure SubP where
 key:Key
 breach:Id
 height:UInt32
 tier:Int
 bytes:List UInt8
 deriving DecidableEq
abbrev Sub.p (s:Sub):SubP:=⟨s.key,s.breach,s.height,s.tier,s.tx.l⟩
theorem el_sub:ElT Tryz.prog 60 69 37 80:=elt_of (z:=Sub.z.v) Tryz.underlying60 (by kernel_rfl) rfl (by omega)
theorem sub_one {l:List Sub}:∀x∈l,∀u∈Sub.c x,u.oneCell'=true:=fun x _ u hu=>List.all_eq_true.1 (show (Sub.c x).all Value.oneCell'=true from rfl) u hu
theorem sameB_p (x y:Sub):sameB x y=decide (x.p=y.p):=by
 unfold sameB
 rw [Bool.eq_iff_iff]
 simp [Sub.p]
structure SubsAt (B:Nat) (w:World) (l:Sl Sub):Prop where
 row:SlAt B w Sub.c 37 l
 tx:∀x∈l.l,SlAt B w u8L 1 x.tx
abbrev stxR (s:Sub):Res:=rowR 5 1 u8L s.tx
abbrev subRs (s:Sl Sub):List Res:=rowR 69 37 Sub.c s::s.l.map stxR
theorem subRs_at {w:World} {s:Sl Sub} (h:(star (subRs s)).ok w):SubsAt w.heap.size w s:=by
 have hp:=Hp.open h
 exact ⟨hp.row (j:=0) rfl,fun b hb=>rowR_at (e:=5) (hp.ok (stxR b) (List.mem_cons_of_mem _ (List.mem_map_of_mem hb)))⟩
theorem SubsAt.more {B B':Nat} {w:World} {l:Sl Sub} (h:SubsAt B w l) (hB:B≤B'):SubsAt B' w l:=⟨h.row.more hB,fun x hx=>(h.tx x hx).more hB⟩
theorem take_map_next {α β:Type} {a b:List α} {f:α→β} {i:Nat} {x y:α} (hx:a[i]? =some x) (hy:b[i]? =some y) (h:(a.take i).map f=(b.take i).map f) (he:f x=f y):(a.take (i+1)).map f=(b.take (i+1)).map f:=by
 rw [List.take_add_one,List.take_add_one,hx,hy,List.map_append,List.map_append,h]
 simp [he]
theorem map_differ {α β:Type} {a b:List α} {f:α→β} {i:Nat} {x y:α} (hx:a[i]? =some x) (hy:b[i]? =some y) (he:f x≠f y):a.map f≠b.map f:=fun h=>by
 have h1:=congrArg (·[i]?) h
 simp only [List.getElem?_map,hx,hy,Option.map_some,Option.some.injEq] at h1
 exact he h1
theorem rall33_any {B B':Nat} {w0:World} {a b:Sl Sub} (ha:SubsAt B w0 a) (hb:SubsAt B' w0 b):Calls Tryz.prog 23 #[a.v,b.v] w0 fun e w'=>e= .returned (.bool (decide (a.l.map (·.p)=b.l.map (·.p))))∧Chg N0 w0 w':=by
 have hp:=Hp.start (S:=N0) w0
 replace ha:=ha.more (Nat.le_max_left B B')
 replace hb:=hb.more (Nat.le_max_right B B')
 have hB:∀b,N0 b→max B B'≤b:=fun _ hh=>hh.elim
 have us:=Tryz.underlying60
 have hm1:a.l.length≤9223372036854775807:=by have:=ha.row.le;have:=ha.row.max;simp only [maxLen] at this;omega
 have hm2:b.l.length≤9223372036854775807:=by have:=hb.row.le;have:=hb.row.max;simp only [maxLen] at this;omega
 have hno:(a.l.length:Int)≠b.l.length→a.l.map (·.p)≠b.l.map (·.p):=fun h e=>by
  have:=congrArg List.length e
  rw [List.length_map,List.length_map] at this
  omega
 refine calls_x (args:= [_,_]) tabOk Tryz.func23 Tryz.ntmps23 Tryz.results23 rfl (Nat.le_of_ble_eq_true rfl) ?_
 ((conv=>whnf);repeat' ((first|((with_reducible refine br_id ?_);((with_reducible refine br_ne (fun hx=>?_) (fun hx=>?_))<;>(try (exfalso;first|omega|contradiction))))|((with_reducible refine gen_id ?_);(apply gen_len;exact rfl;exact rfl;assumption)))<;>(conv=>whnf)))
 ·exact ps_val (v':= .bool false) rfl ⟨by rw [decide_eq_false (hno hx)],hp.chg⟩
 ·have hlen:a.l.length=b.l.length:=by omega
  clear hno
  refine lp_inv (α:=Nat) (fun i=> [(0,a.v),(1,b.v),(5,i64 i)]) (fun i w=>i≤a.l.length∧(a.l.take i).map (·.p)=(b.l.take i).map (·.p)∧Hp N0 w0 w []) (fun i=>a.l.length - i) 0 (by (repeat' (first|exact trivial|(refine ⟨rfl,?_⟩)))) ⟨by omega,rfl,hp⟩ ?_
  clear hp
  rintro i e0 w ⟨hi,heq,hp⟩
  dsimp only at hi heq hp ⊢
  rcases Nat.lt_or_ge i a.l.length with hlt|hge
  ·obtain ⟨b1,o1,x,hA,hb1,hrow,hxx⟩:=ha.row.has hlt
   obtain ⟨b2,o2,y,hA2,hb2,hrow2,hyy⟩:=hb.row.has (i:=i) (by omega)
   have hsm:=fun (w:World) (hc:Chg N0 w0 w)=>same_any x y ((ha.tx x (List.mem_of_getElem? hxx)).keep hc hB) ((hb.tx y (List.mem_of_getElem? hyy)).keep hc hB)
   have hix:(0:Int)≤i∧(i:Int) < b.l.length:=by omega
   rw [sameB_p] at hsm
   by_cases hxy:x.p=y.p
   ·rw [decide_eq_true hxy] at hsm
    ((conv=>whnf);repeat' ((first|((with_reducible refine br_id ?_);first|(with_reducible refine br_t ?_)|(with_reducible refine br_not ?_)|((with_reducible refine br_dec (fun hx=>?_) (fun hx=>?_))<;>(try (exfalso;first|omega|contradiction))))|((with_reducible refine ar_id ?_);(refine ar_i64 (by omega) ?_))|((with_reducible refine ldn_id ?_);((refine ldn_rowx hp hB ‹_› ‹_› _ rfl ‹_› rfl ?_)))|((with_reducible refine gen_id ?_);(apply gen_len;exact rfl;exact rfl;assumption))|((with_reducible refine dr_id ?_);(refine dr_auto tabOk (by kernel_rfl) (by decide+kernel) ?_;(try replace hp:=hp.drew)))|((with_reducible refine cl_id ?_);((refine cl_eq ((hsm _ hp.chg)) rfl rfl ?_;rintro e w ⟨rfl,hcc⟩;replace hp:=hp.call0 hcc;refine ⟨_,rfl,?_⟩)))|((with_reducible refine rd_id ?_);((refine rd_ixs rfl rfl ‹_› rfl rfl (by omega) ?_))))<;>(conv=>whnf)))
    exact lp_next (i+1) (by show a.l.length - (i+1) < a.l.length - i;omega) (by (repeat' (first|exact trivial|(refine ⟨rfl,?_⟩)))) ⟨by show i+1≤_;omega,take_map_next hxx hyy heq hxy,hp⟩
   ·rw [decide_eq_false hxy] at hsm
    ((conv=>whnf);repeat' ((first|((with_reducible refine br_id ?_);first|(with_reducible refine br_f ?_)|(with_reducible refine br_not ?_)|((with_reducible refine br_dec (fun hx=>?_) (fun hx=>?_))<;>(try (exfalso;first|omega|contradiction))))|((with_reducible refine ldn_id ?_);((refine ldn_rowx hp hB ‹_› ‹_› _ rfl ‹_› rfl ?_)))|((with_reducible refine gen_id ?_);(apply gen_len;exact rfl;exact rfl;assumption))|((with_reducible refine dr_id ?_);(refine dr_auto tabOk (by kernel_rfl) (by decide+kernel) ?_;(try replace hp:=hp.drew)))|((with_reducible refine cl_id ?_);((refine cl_eq ((hsm _ hp.chg)) rfl rfl ?_;rintro e w ⟨rfl,hcc⟩;replace hp:=hp.call0 hcc;refine ⟨_,rfl,?_⟩)))|((with_reducible refine rd_id ?_);((refine rd_ixs rfl rfl ‹_› rfl rfl (by omega) ?_))))<;>(conv=>whnf)))
    exact ps_val (v':= .bool false) rfl ⟨by rw [decide_eq_false (map_differ hxx hyy hxy)],hp.chg⟩
  ·((conv=>whnf);repeat' ((first|((with_reducible refine br_id ?_);((with_reducible refine br_dec (fun hx=>?_) (fun hx=>?_))<;>(try (exfalso;first|omega|contradiction))))|((with_reducible refine gen_id ?_);(apply gen_len;exact rfl;exact rfl;assumption)))<;>(conv=>whnf)))
   rw [List.take_of_length_le (by omega),List.take_of_length_le (by omega)] at heq
   exact ps_val (v':= .bool true) rfl ⟨by rw [decide_eq_true heq],hp.chg⟩
end Go.Proofs.YteabebmlclgakaaGreat
/- Rf: ranges over functions: the loop's blocks as resources, what an iterator promises, the rule of the statement. No condition. -/
namespace Go.Proofs.YteabebmlclgakaaGreat
open Go.RowKit
def objR (b:Nat) (o:Obj):Res where
 dom x:=x=b
 ok w:=w.heap[b]? =some o
 lt w h x hx:=by subst hx;exact heap_lt h
 loc w w' h hk:=(h b rfl).trans hk
theorem objR_ok {b:Nat} {o:Obj} {w:World}:(objR b o).ok w↔w.heap[b]? =some o:=Iff.rfl
theorem objR_dom {b x:Nat} {o:Obj}:(objR b o).dom x↔x=b:=Iff.rfl
section
variable {P : Program} {S : Nat → Prop} {w0 w w' : World} {rs : List Res} {j : Nat}
theorem Chg.putObj (w:World) (l:Nat) (o:Obj):Chg (fun x=>x=l) w (w.putObj l o):=⟨rfl,rfl,rfl,Nat.le_of_eq World.putObj_size.symm,fun _ _ hn=>World.putObj_heap_other hn⟩
theorem Hp.putObj {b:Nat} {o:Obj} (h:Hp S w0 w rs) (hj:rs[j]? =some (objR b o)) (o':Obj):Hp S w0 (w.putObj b o') (rs.set j (objR b o')):=
 h.mut hj ((Chg.putObj w b o').mono fun _ _ hh=>objR_dom.2 hh) (objR_ok.2 (World.putObj_heap_same (heap_lt (objR_ok.1 (h.get hj))))) fun _ hb=>.inl (objR_dom.2 (objR_dom.1 hb))
theorem td_id {D:Nat} {k:World→Prop} (h:Td w D k):Td w D k:=h
theorem td_hs {D:Nat} {k:World→Prop} (h:Hp S w0 w rs) (j:Nat) (hj:rs[j]? =some (objR D (.deferred (some [])))) (hk:∀w',Hp S w0 w' (rs.set j (objR D (.deferred none)))→k w'):Td w D k:=
 ⟨objR_ok.1 (h.get hj),hk _ (h.putObj hj _)⟩
theorem Hp.fold1 (h:Hp S w0 w rs):Hp S w0 w [star rs]:=by
 have:=h.fold rs.length
 rwa [List.take_length,List.drop_length] at this
theorem Hp.unfold1 (h:Hp S w0 w [star rs]):Hp S w0 w rs:=by
 have:=h.unfold
 rwa [List.append_nil] at this
end
structure Iter (P:Program) (T:Nat→Prop) (gf:Nat) (lb:Array Value) {α:Type} (enc:α→Array Value) (xs:List α) (W0:World):Prop where
 out:∀(l:Nat) (R X:Nat→Res→Prop) (r0:Res),R 0 r0→r0.ok W0→(∀b,r0.dom b→¬T b)→
  (∀i x W r,R i r→xs[i]? =some x→Mut r0 r W0 W→YieldAt Fence.wide 0 P l (enc x) W fun e W'=>
   (e= .returned (.bool true)∧∃r',R (i+1) r'∧Mut r r' W W')∨(e= .returned (.bool false)∧∃r',X i r'∧Mut r r' W W'))→
  Calls P gf (#[.func (.yield l) #[] #[]]++lb) W0 fun e W'=>(∃v,e= .returned v)∧((∃r',R xs.length r'∧Mut r0 r' W0 W')∨∃i r',i < xs.length∧X i r'∧Mut r0 r' W0 W')
theorem yl_of {P:Program} {l:Nat} {args args':Array Value} {w:World} {k:Value→World→Prop} {R:Ending→World→Prop} (h:YieldAt Fence.wide 0 P l args' w R) (ea:args=args') (hk:∀e w',R e w'→∃v,e= .returned v∧k v w'):Yl P l args w k:=by
 subst ea
 obtain ⟨fn,tmps,assign,body,h1,h2⟩:=h
 exact ⟨fn,tmps,assign,body,h1,h2.mono hk⟩
structure Bo (A:World→Prop) (w:World):Prop where
 out:A w
theorem bo {A:World→Prop} {w:World} (h:A w):Bo A w:=⟨h⟩
def kBody (A:World→Prop) (B:Exit→World→Prop):Exit→Env→World→Prop
 | .normal,_,w=>Bo A w
 | .panic _,_,_=>False
 | .outgrown,_,_=>False
 |ex,_,w=>Bo (B ex) w
structure Bg (L:Nat) (o o':Obj) (w:World) (k:World→Prop):Prop where
 out:w.heap[L]? =some o∧k (w.putObj L o')
theorem bg_hs {S:Nat→Prop} {w0 w:World} {rs:List Res} {L:Nat} {o o':Obj} {k:World→Prop} (h:Hp S w0 w rs) (j:Nat) (hj:rs[j]? =some (objR L o)) (hk:∀w',Hp S w0 w' (rs.set j (objR L o'))→k w'):Bg L o o' w k:=⟨objR_ok.1 (h.get hj),hk _ (h.putObj hj _)⟩
theorem bg_id {L:Nat} {o o':Obj} {w:World} {k:World→Prop} (h:Bg L o o' w k):Bg L o o' w k:=h
def kAsg (L:Nat) (o o':Obj) (k:Env→World→Prop):Exit→Env→World→Prop
 | .normal,e,w=>Bg L o o' w (k e)
 |_,_,_=>False
abbrev lpR (L D:Nat) (o:Obj) (rs:List Res):List Res:=objR L o::objR D (.deferred (some []))::rs
noncomputable def eatL (l:List (Nat×Value)) (e:Env):Env:=List.rec (motive:=fun _=>Env→Env) (fun e=>e) (fun p _ ih e=>ih (eup e (some p.1) p.2)) l e
theorem eatL_rel {n:Nat}:∀(l:List (Nat×Value)) (e:Env) (tmps:Array Value) (ds:List Deferred),Rel n e {tmps:=tmps,defers:=ds}→Rel n (eatL l e) {tmps:=l.foldl (fun t p=>t.setIfInBounds p.1 p.2) tmps,defers:=ds}
 | [],e,tmps,ds,h=>h
 |(d,v)::r,e,tmps,ds,h=>eatL_rel r (eup e (some d) v) _ ds (h.put (some d) v)
def jumpOf:Exit→Option Code
 | .ret=>some .ret
 | .exit id=>some (.exit id)
 | .goto t=>some (.goto t)
 |_=>none
theorem jump_wp {P:Program} {n:Nat} {K:Exit→Env→World→Prop} {ex:Exit} {c:Code} (hc:jumpOf ex=some c) {e:Env} {a:Act} {w:World} (hr:Rel n e a) (h:K ex e w):c.wpIn (FW none) 0 P (QX n K) a w:=by
 cases ex<;>simp [jumpOf] at hc<;>subst hc
 ·exact wpIn_exit ⟨e,hr,h⟩
 ·exact wpIn_goto ⟨e,hr,h⟩
 ·exact wpIn_ret ⟨e,hr,h⟩
theorem enters {P:Program} {T:Tb} (hT:TabOk P T) {f:Nat} (h:T.fn.get f=some ()) (args:Array Value) (w:World):(callFunc f args).run P w= .ok (.enter f args) w:=by
 obtain ⟨fn,body,hfn,hbody,hname⟩:=hT.func h
 simp [callFunc,program,Sem.run,hfn,hbody,beq_eq_false_iff_ne.1 hname]
theorem zip1 (p:Tmp) (v:Value):((#[p]:Array Tmp).zip #[v]).toList= [(p,v)]:=by simp
theorem rf_iter {P:Program} {n:Nat} {g:Operand} {ps:Array Tmp} {assign body:Code} {xa x:XC} {K:Exit→Env→World→Prop} {e:Env} {S:Nat→Prop} {w0 w:World} {rs:List Res} (hp:Hp S w0 w rs)
  {gf:Nat} {lb:Array Value} {α:Type} {enc:α→Array Value} {xs:List α} {T:Nat→Prop} (hfa:flat assign=true) (hfl:flat body=true) (hg:ev n e g= .func (.func gf) #[] lb) (hgf:∀args w,(callFunc gf args).run P w= .ok (.enter gf args) w) (es:α→List (Nat×Value)) (hps:∀y,(enc y).size=ps.size) (hes:∀y,(ps.zip (enc y)).toList=es y)
  (hT:∀b,T b→b < w.heap.size∧∀r∈rs,¬r.dom b) (hit:∀w1,Chg N0 w w1→Iter P T gf lb enc xs w1) (rsI:Nat→List Res→Prop) (h0:rsI 0 rs) (jx:Exit) (hjx:∃c,jumpOf jx=some c) (rsX:Nat→List Res→Prop)
  (hbody:∀i y L D o o' W q,rsI i q→xs[i]? =some y→Chg S w0 W→(∀b,(star (lpR L D o q)).dom b→S b∨w0.heap.size≤b)→Hp (star (lpR L D o q)).dom W W (lpR L D o q)→
   xa (kAsg L o o' (x (kBody (fun W'=>∃q',rsI (i+1) q'∧Hp (star (lpR L D o q)).dom W W' (lpR L D o' q')) (fun ex W'=>ex=jx∧∃q',rsX i q'∧Hp (star (lpR L D o q)).dom W W' (lpR L D o' q'))))) (eatL (es y) ⟨e.f, []⟩) W)
  (hdone:∀L D o W q,rsI xs.length q→Hp S w0 W (lpR L D o q)→K .normal ⟨e.f,D::e.ds⟩ W)
  (hstop:∀i L D o W q,i < xs.length→rsX i q→Hp S w0 W (lpR L D o q)→K jx ⟨e.f,D::e.ds⟩ W):Rf P n g ps assign body xa x K e w:=by
 refine ⟨fun hxa hx a hr=>?_⟩
 refine wpIn_rangeFunc fun fn _=>?_
 obtain ⟨rec,hrec⟩:∃rec:LoopState→Option Code→Loop,rec=fun st pe=>{state:=st,pending:=pe,fn,tmps:=a.tmps,params:=ps,assign,body,defers:=w.heap.size}:=⟨_,rfl⟩
 obtain ⟨L,hL⟩:∃L,L=w.heap.size+1:=⟨_,rfl⟩
 obtain ⟨D,hD⟩:∃D,D=w.heap.size:=⟨_,rfl⟩
 obtain ⟨W1,hW1⟩:∃W1,(w.alloc (.deferred (some []))).alloc (.loop (rec .ready none))=W1:=⟨_,rfl⟩
 have hc1:Chg N0 w W1:=by rw [←hW1];exact ((Chg.refl _ _).alloc _).alloc _
 have hp1:Hp S w0 W1 (lpR L D (.loop (rec .ready none)) rs):=by
  rw [hL,hD,←hW1]
  have h1:Hp S w0 (w.alloc (.deferred (some []))) (objR w.heap.size (.deferred (some []))::rs):=hp.new ((Chg.refl _ _).alloc _) (objR_ok.2 (World.alloc_heap_new w _)) fun b hb=>by rw [objR_dom.1 hb];exact Nat.le_refl _
  refine h1.new ((Chg.refl _ _).alloc _) (objR_ok.2 ?_) fun b hb=>by rw [objR_dom.1 hb,World.size_alloc];exact Nat.le_refl _
  have:=World.alloc_heap_new (w.alloc (.deferred (some []))) (.loop (rec .ready none))
  rwa [World.size_alloc] at this
 refine ⟨L, [dmark D],W1,{target:= .fn (.func gf) lb,args:= #[.func (.yield L) #[] #[]]},W1,gf, #[.func (.yield L) #[] #[]]++lb,W1,?_,?_,fun _ _=>trivial,?_,FW_depth,?_⟩
 ·rw [←hW1,hrec,hL,hD];exact run_enterLoop_outer _ _ _ _ _
 ·simp only [resolve,hr.eval,hg]
  simp [go_sem]
 ·simp [invoke,go_sem,hgf]
 ·have hpS:=hp1.fold1
  refine callsFW (Calls.mono ((hit W1 hc1).out L (fun i r=>∃q,rsI i q∧r=star (lpR L D (.loop (rec .ready none)) q)) (fun i r=>∃q,rsX i q∧r=star (lpR L D (.loop (rec .done (jumpOf jx))) q)) (star (lpR L D (.loop (rec .ready none)) rs)) ⟨rs,h0,rfl⟩ (hpS.get (j:=0) rfl) ?_ ?_) ?_)
  ·intro b hb hTb
   obtain ⟨r,hr1,hr2⟩:=star_dom.1 hb
   obtain ⟨h1,h2⟩:=hT b hTb
   rcases List.mem_cons.1 hr1 with rfl|hr1
   ·have:=objR_dom.1 hr2;omega
   rcases List.mem_cons.1 hr1 with rfl|hr1
   ·have:=objR_dom.1 hr2;omega
   exact h2 r hr1 hr2
  ·rintro i y W _ ⟨q,hq,rfl⟩ hy m
   have hok:=star_ok.1 m.ok
   have hLW:W.heap[L]? =some (.loop (rec .ready none)):=objR_ok.1 (hok.1 _ (List.mem_cons_self ..))
   have hrun:=run_yield (P:=P) (args:=enc y) hLW (by rw [hrec];exact hps y)
   obtain ⟨ob,hob⟩:∃ob,ob=Obj.loop {rec .ready none with state:= .busy}:=⟨_,rfl⟩
   have hpW:Hp S w0 W (lpR L D (.loop (rec .ready none)) q):=by
    have h1:=(hpS.via (j:=0) rfl m)
    have h2:Hp S w0 W [star (lpR L D (.loop (rec .ready none)) q)]:=h1
    exact h2.unfold1
   have hrel:Rel n (eatL (es y) ⟨e.f, []⟩) {tmps:=(es y).foldl (fun t p=>t.setIfInBounds p.1 p.2) a.tmps,defers:= []}:=eatL_rel _ _ _ _ ⟨rfl,hr.2.1,hr.2.2⟩
   have hact:({tmps:=(ps.zip (enc y)).foldl (fun tmps (p:Tmp×Value)=>tmps.setIfInBounds p.1 p.2) a.tmps,defers:= []}:Act)={tmps:=(es y).foldl (fun t p=>t.setIfInBounds p.1 p.2) a.tmps,defers:= []}:=by
    rw [←hes y,←Array.foldl_toList]
   have hb:=hxa _ _ _ W L hfa (hact▸hrel) (hbody i y L D (.loop (rec .ready none)) ob W q hq hy hpW.chg (fun b hb=>by
    obtain ⟨r,hr1,hr2⟩:=star_dom.1 hb
    exact hpW.own r hr1 b hr2) (Hp.open m.ok))
   refine ⟨fn,_,assign,body,by rw [hrec] at hrun;exact hrun,roundIn_of_wpIn trivial (wpIn_mono (show assign.wpIn (FW (some L)) 0 P _ _ W from hb) ?_)⟩
   rintro ex1 a1 W1' ⟨e1,hr1,hk1⟩
   cases ex1<;>try exact hk1.elim
   obtain ⟨hL1,hk1⟩:=hk1.out
   refine ⟨_,by have:=run_beginRound (P:=P) hL1 (by rw [hrec]);rw [←hob] at this;exact this,?_⟩
   have fin:∀(W3:World) (rs3:List Res) (jump:Option Code),Hp (star (lpR L D (.loop (rec .ready none)) q)).dom W W3 (lpR L D ob rs3)→
     (Instr.endRound L jump).run P W3= .ok (.bool jump.isNone) (W3.putObj L (.loop (rec (if jump.isNone then .ready else .done) jump)))∧
     Mut (star (lpR L D (.loop (rec .ready none)) q)) (star (lpR L D (.loop (rec (if jump.isNone then .ready else .done) jump)) rs3)) W (W3.putObj L (.loop (rec (if jump.isNone then .ready else .done) jump))):=fun W3 rs3 jump h3=>by
    have hl3:W3.heap[L]? =some (.loop {rec .ready none with state:= .busy}):=by rw [←hob];exact objR_ok.1 (h3.get (j:=0) rfl)
    have hrun3:=run_endRound (P:=P) jump hl3
    have h6:=h3.putObj (j:=0) rfl (.loop (rec (if jump.isNone then .ready else .done) jump))
    refine ⟨by rw [hrun3];simp only [hrec],h6.shut (List.Sublist.refl _)⟩
   refine wpIn_mono (show body.wpIn (FW (some L)) 0 P _ _ _ from hx _ _ _ _ L hfl hr1 hk1) ?_
   rintro ex a3 W3 ⟨e3,hr3,hk3⟩
   cases ex with
   |normal=>
    obtain ⟨q',hq',hk4⟩:=hk3.out
    obtain ⟨h1,h2⟩:=fin W3 _ none hk4
    exact ⟨_,_,h1, .inl ⟨rfl,_,⟨q',hq',rfl⟩,h2⟩⟩
   |ret=>
    obtain ⟨hj,q',hq',hk4⟩:=hk3.out
    subst hj
    obtain ⟨h1,h2⟩:=fin W3 _ (some .ret) hk4
    exact ⟨_,_,h1, .inr ⟨rfl,_,⟨q',hq',rfl⟩,h2⟩⟩
   |exit id=>
    obtain ⟨hj,q',hq',hk4⟩:=hk3.out
    subst hj
    obtain ⟨h1,h2⟩:=fin W3 _ (some (.exit id)) hk4
    exact ⟨_,_,h1, .inr ⟨rfl,_,⟨q',hq',rfl⟩,h2⟩⟩
   |goto t=>
    obtain ⟨hj,q',hq',hk4⟩:=hk3.out
    subst hj
    obtain ⟨h1,h2⟩:=fin W3 _ (some (.goto t)) hk4
    exact ⟨_,_,h1, .inr ⟨rfl,_,⟨q',hq',rfl⟩,h2⟩⟩
   |panic c=>exact hk3.elim
   |outgrown=>exact hk3.elim
  ·rintro e3 W3 ⟨⟨v,rfl⟩,hm⟩
   have hrel:Rel n ⟨e.f,D::e.ds⟩ {a with defers:= [dmark D]++a.defers}:=⟨by simp [hr.1],hr.2.1,hr.2.2⟩
   rcases hm with ⟨_,⟨q,hq,rfl⟩,m⟩|⟨i,_,hi,⟨q,hq,rfl⟩,m⟩
   ·have h1:Hp S w0 W3 [star (lpR L D (.loop (rec .ready none)) q)]:=hpS.via (j:=0) rfl m
    have h2:=h1.unfold1
    have hl3:W3.heap[L]? =some (.loop (rec .ready none)):=objR_ok.1 (h2.get (j:=0) rfl)
    have hpe:(rec .ready none).pending=none:=by rw [hrec]
    refine ⟨none,_,by have:=run_endLoop (P:=P) hl3 (by rw [hrec];simp);rw [hpe] at this;exact this,?_⟩
    exact ⟨_,hrel,hdone _ _ _ _ _ hq (h2.putObj (j:=0) rfl _)⟩
   ·have h1:Hp S w0 W3 [star (lpR L D (.loop (rec .done (jumpOf jx))) q)]:=hpS.via (j:=0) rfl m
    have h2:=h1.unfold1
    have hl3:W3.heap[L]? =some (.loop (rec .done (jumpOf jx))):=objR_ok.1 (h2.get (j:=0) rfl)
    have hpe:(rec .done (jumpOf jx)).pending=jumpOf jx:=by rw [hrec]
    have hend:=run_endLoop (P:=P) hl3 (by rw [hrec];simp)
    have hk:=hstop i _ _ _ _ _ hi hq (h2.putObj (j:=0) rfl (.loop {rec .done (jumpOf jx) with state:= .exhausted}))
    generalize W3.putObj L (.loop {rec .done (jumpOf jx) with state:= .exhausted})=W4 at hend hk
    rw [hpe] at hend
    refine ⟨jumpOf jx,W4,hend,?_⟩
    cases hj:jumpOf jx with
    |none=>
     obtain ⟨c,hc⟩:=hjx
     rw [hj] at hc
     cases hc
    |some c=>exact jump_wp hj hrel hk
end Go.Proofs.YteabebmlclgakaaGreat
/- Keys: maps whose keys are arrays of bytes, or small structs. No condition. -/
namespace Go.Proofs.YteabebmlclgakaaGreat
open Go.RowKit
set_option maxRecDepth 100000
set_option maxHeartbeats 2000000
abbrev mlk {κ ν:Type} [DecidableEq κ] (l:List (κ×ν)) (k:κ):Option ν:=l.lookup k
theorem lookup_none {κ ν:Type} [DecidableEq κ]:∀{l:List (κ×ν)} {x:κ},x∉l.map (·.1)→l.lookup x=none
 | [],_,_=>rfl
 |p::l,x,h=>by
  have h1:¬x=p.1:=fun e=>h (by simp [e])
  have h2:=lookup_none (l:=l) (x:=x) fun hh=>h (List.mem_cons_of_mem _ hh)
  have hb:(x==p.1)=false:=by simpa using h1
  rw [List.lookup_cons,hb]
  exact h2
theorem lookup_mapput {κ ν:Type} [DecidableEq κ] (k:κ) (v:ν) (x:κ):∀l:List (κ×ν),(l.map fun p=>if p.1=k then (k,v) else p).lookup x=if x=k then (if k∈l.map (·.1) then some v else none) else l.lookup x
 | []=>by simp
 |p::l=>by
  have ih:=lookup_mapput k v x l
  rw [List.map_cons,List.lookup_cons,List.lookup_cons]
  by_cases h1:p.1=k
  ·rw [if_pos h1]
   by_cases h2:x=k
   ·simp [h1,h2]
   ·have h3:¬x=p.1:=fun e=>h2 (e.trans h1)
    have hb:(x==p.1)=false:=by simpa using h3
    have hb2:(x==k)=false:=by simpa using h2
    rw [hb,hb2,ih,if_neg h2,if_neg h2]
  ·rw [if_neg h1,ih]
   by_cases h2:x=k
   ·subst h2
    have h3:¬x=p.1:=fun e=>h1 e.symm
    have hb:(x==p.1)=false:=by simpa using h3
    rw [hb,if_pos rfl,if_pos rfl]
    have hi:x∈(p::l).map (·.1)↔x∈l.map (·.1):=by simp [h3]
    by_cases hm:x∈l.map (·.1)
    ·rw [if_pos (hi.2 hm)]
     simp only
     rw [if_pos hm]
    ·rw [if_neg fun hh=>hm (hi.1 hh)]
     simp only
     rw [if_neg hm]
   ·rw [if_neg h2,if_neg h2]
theorem lookup_mput {κ ν:Type} [DecidableEq κ] (l:List (κ×ν)) (k:κ) (v:ν) (x:κ):(mput l k v).lookup x=if x=k then some v else l.lookup x:=by
 unfold mput
 split
 ·rename_i h
  rw [lookup_mapput,if_pos h]
 ·rename_i h
  rw [List.lookup_append]
  by_cases h2:x=k
  ·subst h2
   rw [lookup_none h]
   simp
  ·have:([(k,v)]:List (κ×ν)).lookup x=none:=by simp [h2]
   rw [this]
   simp [h2]
theorem mapM_has {α β:Type} {f:α→Option β}:∀(l:List α),(∀x∈l,∃y,f x=some y)→∃r,l.mapM f=some r
 | [],_=>⟨[],rfl⟩
 |x::l,h=>by
  obtain ⟨y,hy⟩:=h x (by simp)
  obtain ⟨r,hr⟩:=mapM_has l fun z hz=>h z (by simp [hz])
  exact ⟨y::r,by simp [List.mapM_cons,hy,hr]⟩
theorem keyLits_u8s {P:Program} {t e:TypeId} {n d:Nat} (ht:P.underlying t=some (.array n e)) (he:P.underlying e=some (.int .u8)) (hc:P.cellsOf e=1) (hn:P.cellsOf t=n) (l:List UInt8) (hl:l.length=n):∃L,P.keyLits (d+2) t (l.map u8)=some L:=by
 have h1:∃r,((List.range n).mapM fun i=>P.keyLits (d+1) e (((l.map u8).drop (i*P.cellsOf e)).take (P.cellsOf e)))=some r:=mapM_has _ fun i hi=>by
  have hi':i < l.length:=by rw [hl];exact List.mem_range.1 hi
  have h2:((l.map u8).drop (i*P.cellsOf e)).take (P.cellsOf e)= [u8 l[i]]:=by
   rw [hc,Nat.mul_one,List.drop_eq_getElem_cons (by simpa using hi')]
   simp
  have hw:(Lit.int .u8 (l[i].toNat:Int)).wf=true:=by
   have:=l[i].toNat_lt
   simp [Lit.wf,IntKind.min,IntKind.max,IntKind.signed,IntKind.bits]
   omega
  rw [h2]
  exact ⟨[.int .u8 l[i].toNat],by simp [Program.keyLits,he,hw]⟩
 obtain ⟨r,hr⟩:=h1
 refine ⟨r.flatten,?_⟩
 have hlen:(l.map u8).length=P.cellsOf t:=by simp [hl,hn]
 unfold Program.keyLits
 rw [ht]
 cases hcs:l.map u8 with
 |nil=>rw [hcs] at hr hlen;simp only [hlen,if_true,hr,Option.map_some]
 |cons c cs=>rw [hcs] at hr hlen;simp only [hlen,if_true,hr,Option.map_some]
theorem id_law:Maps.Keyed Tryz.prog 44:=Maps.Keyed.of_law (deep_law (m:=3) (by omega) (by kernel_rfl) (by kernel_rfl) (by kernel_rfl))
theorem Id.inj {x y:Id} (h:x.v=y.v):x=y:=by
 have h1:x.c.toArray=y.c.toArray:=by injection h
 rw [←Id.cells,←Id.cells] at h1
 have h2:x.toList.map Extern.Stop.cell=y.toList.map Extern.Stop.cell:=by simpa using h1
 have h3:x.toList=y.toList:=by
  have hinj:∀a b:UInt8,Extern.Stop.cell a=Extern.Stop.cell b→a=b:=fun a b hh=>by
   simp [Extern.Stop.cell] at hh
   exact UInt8.toNat_inj.1 (by omega)
  exact List.map_inj_right hinj |>.1 h2
 exact Vector.toList_inj.1 h3
theorem idK:KEnc Tryz.prog 44 Id.v where
 law:=id_law
 reads x:=by
  obtain ⟨L,hL⟩:=keyLits_u8s (P:=Tryz.prog) (t:=44) (e:=5) (n:=32) (d:=Tryz.prog.types.size - 1) (by kernel_rfl) Tryz.underlying5 (by kernel_rfl) (by kernel_rfl) x.toList (by simp)
  have h1:x.v.cells.toList=x.toList.map u8:=by
   have:=congrArg Array.toList (Id.cells x)
   rw [List.toList_toArray,List.toList_toArray] at this
   exact this.symm
  have h2:Tryz.prog.types.size - 1+2=Tryz.prog.types.size+1:=by kernel_rfl
  rw [h2] at hL
  refine ⟨.string (keyBytes L),?_⟩
  have ht:Tryz.prog.underlying 44=some (.array 32 5):=by kernel_rfl
  have hk:(Tryz.prog.keyType 44 && x.v.formed Tryz.prog 44)=true:=by kernel_rfl
  unfold keyOf
  rw [ht]
  simp only
  rw [if_pos hk,h1,hL]
  rfl
 inj h:=Id.inj h
theorem key_law:Maps.Keyed Tryz.prog 42:=Maps.Keyed.of_law (deep_law (m:=3) (by omega) (by kernel_rfl) (by kernel_rfl) (by kernel_rfl))
end Go.Proofs.YteabebmlclgakaaGreat
/- KeyK: maps whose keys are keys. No condition. -/
namespace Go.Proofs.YteabebmlclgakaaGreat
open Go.RowKit
set_option maxRecDepth 100000
set_option maxHeartbeats 2000000
theorem keyK:KEnc Tryz.prog 42 Key.v where
 law:=key_law
 reads x:=by
  have h1:∀(x:UInt32) (d:Nat),Tryz.prog.keyLits (d+1) 24 [u32 x]=some [.int .u32 x.toNat]:=fun x d=>by
   have hw:(Lit.int .u32 (x.toNat:Int)).wf=true:=by
    have:=x.toNat_lt
    simp [Lit.wf,IntKind.min,IntKind.max,IntKind.signed,IntKind.bits]
    omega
   simp [Program.keyLits,Tryz.underlying24,hw]
  have hf:(Tryz.prog.fieldsOf 42).toList= [((Tryz.prog.fieldsOf 42)[0]?).getD default,((Tryz.prog.fieldsOf 42)[1]?).getD default]:=by kernel_rfl
  have ht:Tryz.prog.underlying 42=some (.struct (Tryz.prog.fieldsOf 42)):=by kernel_rfl
  have h2:∃L,Tryz.prog.keyLits (Tryz.prog.types.size+1) 42 [u32 x.ses,u32 x.seq]=some L:=by
   obtain ⟨r,hr⟩:=mapM_has (f:=fun f:Field=>Tryz.prog.keyLits (Tryz.prog.types.size) f.type (([u32 x.ses,u32 x.seq].drop f.offset).take (Tryz.prog.cellsOf f.type))) (Tryz.prog.fieldsOf 42).toList fun f hm=>by
    have hsz:Tryz.prog.types.size=(Tryz.prog.types.size - 1)+1:=by kernel_rfl
    rw [hf] at hm
    rcases List.mem_cons.1 hm with rfl|hm
    ·refine ⟨[.int .u32 x.ses.toNat],?_⟩
     rw [hsz,←h1 x.ses (Tryz.prog.types.size - 1)]
     rfl
    ·rcases List.mem_cons.1 hm with rfl|hm
     ·refine ⟨[.int .u32 x.seq.toNat],?_⟩
      rw [hsz,←h1 x.seq (Tryz.prog.types.size - 1)]
      rfl
     ·cases hm
   refine ⟨r.flatten,?_⟩
   unfold Program.keyLits
   rw [ht]
   simp only
   rw [if_pos ⟨by kernel_rfl,by kernel_rfl⟩,hr]
   rfl
  obtain ⟨L,hL⟩:=h2
  refine ⟨.string (keyBytes L),?_⟩
  have hk:(Tryz.prog.keyType 42 && x.v.formed Tryz.prog 42)=true:=by kernel_rfl
  unfold keyOf
  rw [ht]
  simp only
  rw [if_pos hk]
  show (Tryz.prog.keyLits (Tryz.prog.types.size+1) 42 [u32 x.ses,u32 x.seq]).map _=_
  rw [hL]
  rfl
 inj {x y} h:=by
  have h1: #[u32 x.ses,u32 x.seq]= #[u32 y.ses,u32 y.seq]:=by injection h
  obtain ⟨a,b⟩:=x
  obtain ⟨c,d⟩:=y
  simp only [Array.mk.injEq,List.cons.injEq,and_true,Value.int.injEq,true_and] at h1
  have h2:a=c:=UInt32.toNat_inj.1 (by omega)
  have h3:b=d:=UInt32.toNat_inj.1 (by omega)
  rw [h2,h3]
end Go.Proofs.YteabebmlclgakaaGreat
/- TailA: regions whose only call, too, is shown to change nothing that was there; own rows' places. No condition. -/
namespace Go.Proofs.YteabebmlclgakaaGreat
open Go.RowKit
set_option maxRecDepth 100000
set_option maxHeartbeats 2000000
end Go.Proofs.YteabebmlclgakaaGreat
