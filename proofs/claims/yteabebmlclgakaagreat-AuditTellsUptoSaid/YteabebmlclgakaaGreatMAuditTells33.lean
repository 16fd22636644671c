/- MAuditTells33: Aud9, Cel, Aud10, Aud11. -/
import Derived.Test.YteabebmlclgakaaGreatMAuditTellssAud8
import Derived.Test.YteabebmlclgakaaGreatMAuditTells13
import Derived.Laws.OwnMore
import Derived.Test.YteabebmlclgakaaGreatMAuditTells17
import Derived.Test.YteabebmlclgakaaGreatMAuditTells8
import Derived.Shelf.Strings.OnBuilder
import Derived.Shelf.Lay
set_option linter.unusedSimpArgs false
set_option linter.unusedVariables false
/- Aud9: what the document's audit marks is what the program's rules break: the plain law. -/
namespace Go.Proofs.YteabebmlclgakaaGreat
open Go.RowKit
def tab11 (f:Nat→Bool):List Bool:=(List.range 11).map f
theorem tab11_len (f:Nat→Bool):(tab11 f).length=11:=by unfold tab11;rw [List.length_map,List.length_range]
theorem tab11_at {f:Nat→Bool} {k:Nat} (h:k < 11):(tab11 f)[k]? =some (f k):=by
 unfold tab11
 rw [List.getElem?_map,List.getElem?_range h]
 rfl
theorem tab11_set {f:Nat→Bool} {v:Nat} (b:Bool):(tab11 f).set v b=tab11 fun k=>if k=v then b else f k:=by
 apply List.ext_getElem?
 intro k
 rw [List.getElem?_set]
 rcases Nat.lt_or_ge k 11 with hk|hk
 ·rw [tab11_at hk,tab11_at hk,tab11_len]
  by_cases h:v=k
  ·subst h
   rw [if_pos rfl,if_pos hk,if_pos rfl]
  ·rw [if_neg h,if_neg (fun e=>h e.symm)]
 ·rw [List.getElem?_eq_none (l:=tab11 f) (by rw [tab11_len];exact hk),List.getElem?_eq_none (by rw [tab11_len];exact hk),tab11_len]
  split
  ·rw [if_neg (by omega)]
  ·rfl
theorem tab11_congr {f g:Nat→Bool} (h:∀k,k < 11→f k=g k):tab11 f=tab11 g:=List.map_congr_left fun k hk=>h k (List.mem_range.1 hk)
def badB (x:Sta):Nat→Bool
 |1=> !soundC x.cfg
 |2=> !chS x.cfg.dep x.ht x.win.l
 |3=> !haltE x.halt
 |4=> !sesS x.next x.cfg.ses x.ses.l
 |5=> !blobS x.ses.l (x.blobs.l.map Blob.p)
 |10=> !dueS x
 |_=>false
def hitJ (x:Sta) (i k:Nat):Bool:=(List.range i).any fun a=>match x.jobs.l[a]? with
 |some j=>decide ((k:Int)∈jobL x a j x.win.l.length)
 |none=>false
theorem hit_next {x:Sta} {i:Nat} {j:Job} (hj:x.jobs.l[i]? =some j) (k:Nat):hitJ x (i+1) k=(hitJ x i k|| decide ((k:Int)∈jobL x i j x.win.l.length)):=by
 unfold hitJ
 rw [List.range_succ,List.any_append,List.any_cons,List.any_nil,Bool.or_false,hj]
theorem mem_if {c:Bool} {a v:Int}:v∈(if c=true then [a] else [])↔v=a∧c=true:=by cases c<;>simp
theorem oneQ_mem {x:Sta} {j:Job} {q:Nat} {v:Int}:v∈oneQ x j q↔∃b,x.win.l[q]? =some b∧((v=7∧p7 j b=true)∨(v=8∧p8 (htQ x q) j b=true)∨(v=9∧p9 (htQ x q) j b=true)):=by
 unfold oneQ
 cases h:x.win.l[q]? with
 |none=>
  dsimp only
  constructor
  ·intro h;simp at h
  ·rintro ⟨b,h,_⟩;cases h
 |some b=>
  dsimp only
  rw [List.mem_append,List.mem_append,mem_if,mem_if,mem_if]
  constructor
  ·intro h;exact ⟨b,rfl,h⟩
  ·rintro ⟨c,hc,h⟩;cases hc;exact h
theorem jobL_mem {x:Sta} {i n:Nat} {j:Job} {v:Int}:v∈jobL x i j n↔(v=6∧jobAt x.ht x.jobs.l i=false)∨∃q,q < n∧∃b,x.win.l[q]? =some b∧((v=7∧p7 j b=true)∨(v=8∧p8 (htQ x q) j b=true)∨(v=9∧p9 (htQ x q) j b=true)):=by
 unfold jobL
 rw [List.mem_append,List.mem_flatMap]
 apply or_congr
 ·cases jobAt x.ht x.jobs.l i<;>simp
 ·constructor
  ·rintro ⟨q,hq,h⟩
   exact ⟨q,List.mem_range.1 hq,oneQ_mem.1 h⟩
  ·rintro ⟨q,hq,h⟩
   exact ⟨q,List.mem_range.2 hq,oneQ_mem.2 h⟩
theorem jobL_rng {x:Sta} {i n:Nat} {j:Job} {v:Int} (h:v∈jobL x i j n):6≤v∧v≤9:=by
 rcases jobL_mem.1 h with h|⟨_,_,_,_,h|h|h⟩<;>omega
theorem hit_iff {x:Sta} {k:Nat}:hitJ x x.jobs.l.length k=true↔∃a j,x.jobs.l[a]? =some j∧(k:Int)∈jobL x a j x.win.l.length:=by
 unfold hitJ
 rw [List.any_eq_true]
 constructor
 ·rintro ⟨a,_,h⟩
  cases hj:x.jobs.l[a]? with
  |none=>rw [hj] at h;cases h
  |some j=>rw [hj] at h;exact ⟨a,j,hj,of_decide_eq_true h⟩
 ·rintro ⟨a,j,hj,h⟩
  refine ⟨a,List.mem_range.2 (List.getElem?_eq_some_iff.1 hj).1,?_⟩
  rw [hj]
  exact decide_eq_true h
theorem hit_no {x:Sta} {k:Nat} (h:k < 6∨9 < k):hitJ x x.jobs.l.length k=false:=by
 apply Bool.eq_false_iff.2
 intro hh
 obtain ⟨a,j,_,h1⟩:=hit_iff.1 hh
 have:=jobL_rng h1
 omega
theorem opn_is (j:Job) (b:Blk):opnB j b= !p7 j b:=by
 unfold opnB opnV p7 tirB
 cases h:decide (j.mined.toNat=0) with
 |false=>
  rw [Bool.false_and]
  exact List.all_eq_true.2 fun v _=>by simp
 |true=>
  rw [Bool.true_and,Bool.eq_iff_iff,List.all_eq_true,Bool.not_eq_true',List.any_eq_false]
  simp
theorem st_is {x:Sta} {h:UInt32} {l:List Id}:(stI x h && !stT x h l)=true↔∃q,q < x.win.l.length∧∃b,x.win.l[q]? =some b∧htQ x q=(h.toNat:Int)∧(l.any fun v=>decide (v∈b.tx.l))=false:=by
 have e:∀q:Nat,htQ x q=(h.toNat:Int)↔atI x h=(q:Int):=fun q=>by unfold htQ atI;omega
 constructor
 ·intro hh
  rw [Bool.and_eq_true,Bool.not_eq_true'] at hh
  obtain ⟨h1,h2⟩:=hh
  have h3:=of_decide_eq_true h1
  have hq:(atI x h).toNat < x.win.l.length:=by omega
  have hb:=List.getElem?_eq_getElem hq
  refine ⟨_,hq,_,hb,(e _).2 (by omega),?_⟩
  unfold stT at h2
  rw [hb] at h2
  dsimp only at h2
  rwa [h1,Bool.true_and] at h2
 ·rintro ⟨q,hq,b,hb,hh,ha⟩
  have h1:=(e q).1 hh
  have h2:stI x h=true:=decide_eq_true (by omega)
  have h3:(atI x h).toNat=q:=by omega
  unfold stT
  rw [h3,hb]
  dsimp only
  rw [h2,ha]
  rfl
theorem all_bad {α:Type} {l:List α} {p:α→Bool}:(!l.all p)=true↔∃(a:Nat) (y:α),l[a]? =some y∧p y=false:=by
 rw [Bool.not_eq_true',List.all_eq_false]
 constructor
 ·rintro ⟨y,hy,h⟩
  obtain ⟨a,ha⟩:=List.mem_iff_getElem?.1 hy
  exact ⟨a,y,ha,by simpa using h⟩
 ·rintro ⟨a,y,ha,h⟩
  exact ⟨y,List.mem_of_getElem? ha,by rw [h];simp⟩
theorem hit6 (x:Sta):hitJ x x.jobs.l.length 6= !jobS x.ht x.jobs.l:=by
 rw [Bool.eq_iff_iff,hit_iff,Bool.not_eq_true']
 unfold jobS
 rw [List.all_eq_false]
 constructor
 ·rintro ⟨a,j,hj,h⟩
  refine ⟨a,List.mem_range.2 (List.getElem?_eq_some_iff.1 hj).1,?_⟩
  rcases jobL_mem.1 h with ⟨_,h⟩|⟨_,_,_,_,h|h|h⟩
  ·rw [h];simp
  ·omega
  ·omega
  ·omega
 ·rintro ⟨a,ha,h⟩
  have ha:=List.mem_range.1 ha
  exact ⟨a,_,List.getElem?_eq_getElem ha,jobL_mem.2 (.inl ⟨rfl,by simpa using h⟩)⟩
theorem hit7 (x:Sta):hitJ x x.jobs.l.length 7= !x.jobs.l.all (opnJ x):=by
 rw [Bool.eq_iff_iff,hit_iff,all_bad]
 refine exists_congr fun a=>exists_congr fun j=>and_congr_right fun _=>?_
 unfold opnJ
 rw [jobL_mem]
 constructor
 ·rintro (h|⟨q,_,b,hb,h|h|h⟩)
  ·omega
  ·exact List.all_eq_false.2 ⟨b,List.mem_of_getElem? hb,by rw [opn_is,h.2];simp⟩
  ·omega
  ·omega
 ·intro h
  obtain ⟨b,hb,h⟩:=List.all_eq_false.1 h
  obtain ⟨q,hq⟩:=List.mem_iff_getElem?.1 hb
  rw [opn_is] at h
  exact .inr ⟨q,(List.getElem?_eq_some_iff.1 hq).1,b,hq, .inl ⟨rfl,by simpa using h⟩⟩
theorem hit8 (x:Sta):hitJ x x.jobs.l.length 8= !x.jobs.l.all (brcJ x):=by
 rw [Bool.eq_iff_iff,hit_iff,all_bad]
 refine exists_congr fun a=>exists_congr fun j=>and_congr_right fun _=>?_
 unfold brcJ
 rw [jobL_mem,Bool.not_eq_false',st_is]
 constructor
 ·rintro (h|⟨q,hq,b,hb,h|h|h⟩)
  ·omega
  ·omega
  ·have h:=h.2
   unfold p8 at h
   rw [Bool.and_eq_true,decide_eq_true_eq,Bool.not_eq_true'] at h
   exact ⟨q,hq,b,hb,h.1,by rw [List.any_cons,List.any_nil,Bool.or_false];exact h.2⟩
  ·omega
 ·rintro ⟨q,hq,b,hb,hh,h⟩
  rw [List.any_cons,List.any_nil,Bool.or_false] at h
  refine .inr ⟨q,hq,b,hb, .inr (.inl ⟨rfl,?_⟩)⟩
  unfold p8
  rw [decide_eq_true hh,h]
  rfl
theorem hit9 (x:Sta):hitJ x x.jobs.l.length 9= !x.jobs.l.all (mndJ x):=by
 rw [Bool.eq_iff_iff,hit_iff,all_bad]
 refine exists_congr fun a=>exists_congr fun j=>and_congr_right fun _=>?_
 unfold mndJ
 rw [jobL_mem,Bool.not_eq_false',Bool.and_eq_true,st_is]
 constructor
 ·rintro (h|⟨q,hq,b,hb,h|h|h⟩)
  ·omega
  ·omega
  ·omega
  ·have h:=h.2
   unfold p9 at h
   rw [Bool.and_eq_true,Bool.and_eq_true,Bool.not_eq_true'] at h
   exact ⟨⟨q,hq,b,hb,of_decide_eq_true h.2.1,h.2.2⟩,h.1⟩
 ·rintro ⟨⟨q,hq,b,hb,hh,h⟩,h0⟩
  refine .inr ⟨q,hq,b,hb, .inr (.inr ⟨rfl,?_⟩)⟩
  unfold p9
  rw [Bool.and_eq_true,Bool.and_eq_true,Bool.not_eq_true']
  exact ⟨h0,decide_eq_true hh,h⟩
theorem bad_is (x:Sta) {k:Nat} (h:k < 10):(badB x (k+1)|| hitJ x x.jobs.l.length (k+1))= !((ruleA x).getD k true):=by
 match k,h with
 |0,_=>rw [hit_no (by omega),Bool.or_false];rfl
 |1,_=>rw [hit_no (by omega),Bool.or_false];rfl
 |2,_=>rw [hit_no (by omega),Bool.or_false];rfl
 |3,_=>rw [hit_no (by omega),Bool.or_false];rfl
 |4,_=>rw [hit_no (by omega),Bool.or_false];rfl
 |5,_=>exact hit6 x
 |6,_=>exact hit7 x
 |7,_=>exact hit8 x
 |8,_=>exact hit9 x
 |9,_=>rw [hit_no (by omega),Bool.or_false];rfl
 |n+10,h=>omega
end Go.Proofs.YteabebmlclgakaaGreat
/- Cel: made rows as cells. No condition. -/
namespace Go.Proofs.YteabebmlclgakaaGreat
open Go.RowKit
set_option maxRecDepth 100000
set_option maxHeartbeats 2000000
section
variable {P : Program} {S : Nat → Prop} {w0 w : World} {rs : List Res} {ρ : Operand → Value} {o : Oper} {g : Value → World → Prop} {t e : TypeId}
theorem gen_makeC {i:TypeInfo} {z:Value} {len cap:Operand} (hop:o.op= .makeSlice t len cap) (h:Hp S w0 w rs) (ht:P.underlying t=some (.slice e)) (hi:P.info? e=some i) (hz:i.zero=some z) {kl kc:IntKind} {m m2:Int} (n:Nat) (hl:ρ len= .int kl m) (hc:ρ cap= .int kc m2) (hm:m=n) (hm2:m2=n) (hb:i.bytes*n≤281474976710656) (h63:n≤maxLen)
  (hk:∀b w',Hp S w0 w' (cel b e (madeCells z.cells (n*i.size))::rs)→g (.slice (some ⟨b,0,none⟩) n n) w'):Gen P ρ o w g:=by
 subst hm hm2
 have h63':(n:Int)≤9223372036854775807:=by
  have h:=h63
  simp [maxLen] at h
  omega
 have hb':(i.bytes:Int)*(n:Int)≤281474976710656:=by
  have h:((i.bytes*n:Nat):Int)≤281474976710656:=by omega
  rwa [Int.natCast_mul] at h
 have hr:=run_make (P:=P) (w:=w) t e i z ht hi hz kl kc n n (by omega) (Int.le_refl _) hb' h63'
 simp only [Int.toNat_natCast] at hr
 refine gen_v (v:= .slice (some ⟨w.heap.size,0,none⟩) n n) (w':=w.alloc (.cells (madeCells z.cells (n*i.size)) e)) (by simp [execOp,hop,hl,hc,hr]) (hk w.heap.size _ (h.new ((Chg.refl _ _).alloc _) ?_ fun c hc=>?_))
 ·exact cel_ok.2 (heap_alloc_new w _)
 ·have:c=w.heap.size:=cel_dom.1 hc
  omega
end
end Go.Proofs.YteabebmlclgakaaGreat
/- Aud10: the document's audit tells the rules that the program's audit tells. Of states that are few. -/
namespace Go.Proofs.YteabebmlclgakaaGreat
open Go.RowKit
set_option maxRecDepth 100000
set_option maxHeartbeats 4000000
abbrev badR (bm:Nat) (L:List Bool):Res:=cel bm 4 (arC Value.bool L)
theorem bad_tab (x:Sta):tab11 (badB x)= [false, !soundC x.cfg, !chS x.cfg.dep x.ht x.win.l, !haltE x.halt, !sesS x.next x.cfg.ses x.ses.l, !blobS x.ses.l (x.blobs.l.map Blob.p),false,false,false,false, !dueS x]:=rfl
theorem rbroken37_any {B:Nat} {w0:World} {x:Sta} (hs:StaAt B w0 x) (hf:FewI x) (hlv:∀j∈x.jobs.l, -9223372036854775808≤j.live∧j.live≤9223372036854775807) (hdep: -9223372036854775808≤x.cfg.dep∧x.cfg.dep≤9223372036854775807):Calls Tryz.prog 30 #[x.v] w0 fun e w'=>∃r:Sl Int,r.l=brokenS x∧e= .returned r.v∧Made (rowR 3 1 iL r) w0 w':=by
 have hp:=Hp.start (S:=N0) w0
 have hB:∀b,N0 b→B≤b:=fun _ hh=>hh.elim
 have us:=Tryz.underlying76
 have ub:=Tryz.underlying138
 have u4:=Tryz.underlying29
 have f4:=hf.jobs
 obtain ⟨ib,hib,hzb,hbb,hsb⟩:∃i,Tryz.prog.info? 4=some i∧i.zero=some (.bool false)∧i.bytes=1∧i.size=1:=⟨_,rfl,rfl,rfl,rfl⟩
 have hT:=bad_tab x
 obtain ⟨q0,h0⟩:∃q,soundC x.cfg=q:=⟨_,rfl⟩
 obtain ⟨q1,h1⟩:∃q,chS x.cfg.dep x.ht x.win.l=q:=⟨_,rfl⟩
 obtain ⟨q3,h3⟩:∃q,sesS x.next x.cfg.ses x.ses.l=q:=⟨_,rfl⟩
 obtain ⟨q4,h4⟩:∃q,blobS x.ses.l (x.blobs.l.map Blob.p)=q:=⟨_,rfl⟩
 obtain ⟨q9,h9⟩:∃q,dueS x=q:=⟨_,rfl⟩
 have c0:∀{w:World},Chg N0 w0 w→Calls Tryz.prog 52 #[x.cfg.v] w fun e w'=>e= .returned (.bool q0)∧Chg N0 w w':=fun {w} hc=>by rw [←h0];exact rsound31_any _ _
 have c1:∀{w:World},Chg N0 w0 w→Calls Tryz.prog 53 #[.agg #[i64 x.cfg.dep,u32 x.ht,x.win.v]] w fun e w'=>e= .returned (.bool q1)∧Chg N0 w w':=fun {w} hc=>by
  rw [←h1]
  have t:=hs.keep hc hB
  exact rright26_any _ _ t.win t.tx (by have:=hf.win;omega)
 have c3:∀{w:World},Chg N0 w0 w→Calls Tryz.prog 84 #[x.v] w fun e w'=>e= .returned (.bool q3)∧Chg N0 w w':=fun {w} hc=>by rw [←h3];exact rses37_any (hs.keep hc hB) hf
 have c4:∀{w:World},Chg N0 w0 w→Calls Tryz.prog 85 #[x.v] w fun e w'=>e= .returned (.bool q4)∧Chg N0 w w':=fun {w} hc=>by rw [←h4];exact rblobs37_any (hs.keep hc hB) hf
 have c9:∀{w:World},Chg N0 w0 w→Calls Tryz.prog 86 #[x.v] w fun e w'=>e= .returned (.bool q9)∧Chg N0 w w':=fun {w} hc=>by rw [←h9];exact rdue_any (hs.keep hc hB) hf hdep
 rw [h0,h1,h3,h4,h9] at hT
 clear h0 h1 h3 h4 h9
 refine calls_x (args:= [_]) tabOk Tryz.func30 Tryz.ntmps30 Tryz.results30 rfl (Nat.le_of_ble_eq_true rfl) ?_
 ((conv=>whnf);repeat' ((first|((with_reducible refine ldn_id ?_);(apply ldn_hs hp;(focus repeat' constructor);exact rfl;exact rfl))|((with_reducible refine al_id ?_);(refine al_cel hp ?_;clear hp;intro bb w hp))|((with_reducible refine gen_id ?_);((refine gen_makeC rfl hp ub hib hzb 11 rfl rfl rfl rfl (by omega) (by simp [maxLen]) ?_);clear hp;intro bm w hp)))<;>(conv=>whnf)))
 have em:madeCells (Value.bool false).cells (11*ib.size)=arC Value.bool (List.replicate 11 false):=by
  rw [hsb]
  apply Array.ext'
  rw [show (Value.bool false).cells= #[Value.bool false] from rfl,toList_madeCells_one]
  simp [arC]
 rw [em] at hp
 obtain ⟨b1,hb1⟩:∃x,x=bb:=⟨_,rfl⟩
 subst hb1
 apply lp_share (fun e w=>∃(e0:Nat→Value),e=eat [(1,ptr b1),(3, .slice (some ⟨bm,0,none⟩) 11 11),(4,i64 0)] ⟨e0, []⟩∧Hp N0 w0 w [badR bm (tab11 (badB x)),cel b1 31 x.c.toArray])
 ·intro tail
  ((conv=>whnf);repeat' ((first|((with_reducible refine br_id ?_);first|(with_reducible refine br_t ?_)|(with_reducible refine br_f ?_)|((with_reducible refine br_ne (fun hx=>?_) (fun hx=>?_))<;>(try (exfalso;first|omega|contradiction))))|((with_reducible refine cn_id ?_);(refine cn rfl ?_))|((with_reducible refine ld_id ?_);(apply ld_hs hp;(focus repeat' constructor);exact rfl))|((with_reducible refine ldn_id ?_);(apply lda_hs hp;(focus repeat' constructor);exact rfl))|((with_reducible refine st_id ?_);first|((refine st_arr hp 0 rfl (1) (ad1 _ _) ((!q0)) rfl (by simp) rfl ?_);clear hp;intro w hp;dsimp only [List.set] at hp)|((refine st_arr hp 0 rfl (2) (ad1 _ _) ((!q1)) rfl (by simp) rfl ?_);clear hp;intro w hp;dsimp only [List.set] at hp)|((refine st_arr hp 0 rfl (3) (ad1 _ _) (false) rfl (by simp) rfl ?_);clear hp;intro w hp;dsimp only [List.set] at hp)|((refine st_arr hp 0 rfl (3) (ad1 _ _) ((x.halt !=16)) rfl (by simp) rfl ?_);clear hp;intro w hp;dsimp only [List.set] at hp)|((refine st_arr hp 0 rfl (4) (ad1 _ _) ((!q3)) rfl (by simp) rfl ?_);clear hp;intro w hp;dsimp only [List.set] at hp)|((refine st_arr hp 0 rfl (5) (ad1 _ _) ((!q4)) rfl (by simp) rfl ?_);clear hp;intro w hp;dsimp only [List.set] at hp)|((refine st_arr hp 0 rfl (10) (ad1 _ _) ((!q9)) rfl (by simp) rfl ?_);clear hp;intro w hp;dsimp only [List.set] at hp))|((with_reducible refine gen_id ?_);first|((refine gen_ixs rfl rfl rfl rfl rfl (by omega) ?_))|(apply gen_build;exact rfl;exact rfl))|((with_reducible refine cl_id ?_);first|((refine cl_eq ((c0 hp.chg)) rfl rfl ?_;rintro e w ⟨rfl,hcc⟩;replace hp:=hp.call0 hcc;refine ⟨_,rfl,?_⟩))|((refine cl_eq ((c1 hp.chg)) rfl rfl ?_;rintro e w ⟨rfl,hcc⟩;replace hp:=hp.call0 hcc;refine ⟨_,rfl,?_⟩))|((refine cl_eq ((c3 hp.chg)) rfl rfl ?_;rintro e w ⟨rfl,hcc⟩;replace hp:=hp.call0 hcc;refine ⟨_,rfl,?_⟩))|((refine cl_eq ((c4 hp.chg)) rfl rfl ?_;rintro e w ⟨rfl,hcc⟩;replace hp:=hp.call0 hcc;refine ⟨_,rfl,?_⟩))|((refine cl_eq ((c9 hp.chg)) rfl rfl ?_;rintro e w ⟨rfl,hcc⟩;replace hp:=hp.call0 hcc;refine ⟨_,rfl,?_⟩))))<;>(conv=>whnf)))
  all_goals first
   |(exfalso;omega)
   |(refine tail _ _ ⟨_,eat_holds (by (repeat' (first|exact trivial|(refine ⟨rfl,?_⟩)))),?_⟩
     have hH:haltE x.halt=true:=by unfold haltE;exact decide_eq_true (by omega)
     rw [hT,hH]
     exact hp)
   |(refine tail _ _ ⟨_,eat_holds (by (repeat' (first|exact trivial|(refine ⟨rfl,?_⟩)))),?_⟩
     have hH:haltE x.halt=(x.halt==16):=by
      unfold haltE
      rw [Bool.eq_iff_iff,decide_eq_true_eq,beq_iff_eq]
      omega
     rw [hT,hH]
     exact hp)
 ·clear hp em hT c0 c1 c3 c4 c9
  rintro e w ⟨e0,rfl,hp⟩
  have hb0:tab11 (badB x)=tab11 fun k=>badB x k|| hitJ x 0 k:=tab11_congr fun k _=>by unfold hitJ;simp
  rw [hb0] at hp
  refine lp_inv (α:=Nat) (fun i=> [(1,ptr b1),(3, .slice (some ⟨bm,0,none⟩) 11 11),(4,i64 i)]) (fun i w=>i≤x.jobs.l.length∧Hp N0 w0 w [badR bm (tab11 fun k=>badB x k|| hitJ x i k),cel b1 31 x.c.toArray]) (fun i=>x.jobs.l.length - i) 0 (by (repeat' (first|exact trivial|(refine ⟨rfl,?_⟩)))) ⟨by omega,hp⟩ ?_
  clear hp hb0
  rintro i e0 w ⟨hi,hp⟩
  dsimp only at hi hp ⊢
  rcases Nat.lt_or_ge i x.jobs.l.length with hlt|hge
  ·obtain ⟨b,o,y,hA,hbb,hrow,hyy⟩:=hs.jobs.has hlt
   ((conv=>whnf);repeat' ((first|((with_reducible refine br_id ?_);((with_reducible refine br_dec (fun hx=>?_) (fun hx=>?_))<;>(try (exfalso;first|omega|contradiction))))|((with_reducible refine ld_id ?_);(apply ld_hs hp;(focus repeat' constructor);exact rfl))|((with_reducible refine ldn_id ?_);(apply lda_hs hp;(focus repeat' constructor);exact rfl))|((with_reducible refine gen_id ?_);(apply gen_len;exact rfl;exact rfl;assumption)))<;>(conv=>whnf)))
   refine cl_eq (rjobs37_any (hs.keep hp.chg hB) hf hlv hyy) rfl rfl ?_
   rintro e w ⟨r,hr,rfl,hm⟩
   replace hp:=hp.add hm
   clear hm
   refine ⟨_,rfl,?_⟩
   have hrl:r.l.length≤1+3*x.win.l.length:=by rw [hr];exact jobL_len x i y _
   have f3:=hf.win
   ((conv=>whnf);repeat' ((first|((with_reducible refine br_id ?_);first|(with_reducible refine br_t ?_)|(with_reducible refine br_f ?_)|(with_reducible refine br_not ?_)|((with_reducible refine br_dec (fun hx=>?_) (fun hx=>?_))<;>(try (exfalso;first|omega|contradiction)))|((with_reducible refine br_eq (fun hx=>?_) (fun hx=>?_))<;>(try (exfalso;first|omega|contradiction)))|((with_reducible refine br_ne (fun hx=>?_) (fun hx=>?_))<;>(try (exfalso;first|omega|contradiction)))|((with_reducible refine br_s (fun hx=>?_) (fun hx=>?_))<;>(try (exfalso;first|omega|contradiction))))|((with_reducible refine ar_id ?_);first|(refine ar_i64 (by omega) ?_)|(refine ar_u32 (by omega) ?_)|(refine ar_u64 (by omega) ?_)|(refine ar_u8 (by omega) ?_))|((with_reducible refine cn_id ?_);first|(refine cn rfl ?_)|(refine cn ‹_› ?_)|(refine cn (by omega) ?_)|(refine cn (Chg.refl _ _) ?_))|((with_reducible refine ld_id ?_);first|(apply ld_hs hp;(focus repeat' constructor);exact rfl)|(refine ld_of ‹_› ?_))|((with_reducible refine ldn_id ?_);first|(apply lda_hs hp;(focus repeat' constructor);exact rfl)|(apply ldn_hs hp;(focus repeat' constructor);exact rfl;exact rfl))|((with_reducible refine al_id ?_);(refine al_cel hp ?_;clear hp;intro bb w hp))|((with_reducible refine st_id ?_);first|(apply sta_hs hp;(focus repeat' constructor);exact rfl;exact rfl;clear hp;intro w hp;(try dsimp only [List.set] at hp))|(apply st_hs hp;(focus repeat' constructor);exact rfl;exact rfl;clear hp;intro w hp;(try dsimp only [List.set] at hp)))|((with_reducible refine gen_id ?_);first|(apply gen_build;exact rfl;exact rfl)|(apply gen_len;exact rfl;exact rfl;assumption)|(apply gen_min;exact rfl;exact rfl;exact rfl)|(apply gen_max;exact rfl;exact rfl;exact rfl)|(apply gen_ix;exact rfl;exact rfl;exact rfl;exact rfl;omega)|(apply gen_ixa;exact rfl;exact rfl;exact rfl;exact rfl;omega))|((with_reducible refine dr_id ?_);first|(refine dr_auto tabOk (by kernel_rfl) (by decide+kernel) ?_;(try replace hp:=hp.drew))|(refine dr_autog tabOk (by kernel_rfl) (by decide+kernel) ?_;(try replace hp:=hp.drew))|(refine dr_autot tabOk (by kernel_rfl) (by decide+kernel) ?_;(try replace hp:=hp.drew)))|((with_reducible refine fk_id ?_);(refine fk_mk ?_ ?_))|((with_reducible refine rd_id ?_);first|(apply rd_len;exact rfl;exact rfl;assumption)|(apply rd_ix;exact rfl;exact rfl;exact rfl;exact rfl;omega)))<;>(conv=>whnf)))
   have hb1:tab11 (fun k=>badB x k|| hitJ x i k)=tab11 fun k=>(badB x k|| hitJ x i k)|| decide ((k:Int)∈r.l.take 0):=tab11_congr fun k _=>by simp
   rw [hb1] at hp
   refine lp_inv (α:=Nat) (fun n=> [(1,ptr b1),(3, .slice (some ⟨bm,0,none⟩) 11 11),(4,i64 i),(5,r.v),(6,i64 n)]) (fun n w=>n≤r.l.length∧Hp N0 w0 w [rowR 3 1 iL r,badR bm (tab11 fun k=>(badB x k|| hitJ x i k)|| decide ((k:Int)∈r.l.take n)),cel b1 31 x.c.toArray]) (fun n=>r.l.length - n) 0 (by (repeat' (first|exact trivial|(refine ⟨rfl,?_⟩)))) ⟨by omega,hp⟩ ?_
   clear hp hb1
   rintro n e0 w ⟨hn,hp⟩
   dsimp only at hn hp ⊢
   rcases Nat.lt_or_ge n r.l.length with hnl|hng
   ·obtain ⟨b2,o2,v,hA2,hbb2,hrow2,hvv⟩:=(hp.row (j:=0) rfl).has hnl
    have hv:=jobL_rng (hr▸List.mem_of_getElem? hvv)
    obtain ⟨m,rfl⟩:∃m:Nat,v=m:=⟨v.toNat,by omega⟩
    have hst:(tab11 fun k=>(badB x k|| hitJ x i k)|| decide ((k:Int)∈r.l.take n)).set m true=tab11 fun k=>(badB x k|| hitJ x i k)|| decide ((k:Int)∈r.l.take (n+1)):=by
     rw [tab11_set]
     refine tab11_congr fun k _=>?_
     have hd:decide ((k:Int)∈r.l.take (n+1))=(decide ((k:Int)∈r.l.take n)|| decide (k=m)):=by
      rw [List.take_add_one,hvv,Bool.eq_iff_iff,Bool.or_eq_true,decide_eq_true_eq,decide_eq_true_eq,decide_eq_true_eq]
      exact List.mem_append.trans (or_congr Iff.rfl (List.mem_singleton.trans (by omega)))
     rw [hd]
     by_cases hk:k=m
     ·rw [if_pos hk,decide_eq_true hk,Bool.or_true,Bool.or_true]
     ·rw [if_neg hk,decide_eq_false hk,Bool.or_false]
    have hm11:m < (tab11 fun k=>(badB x k|| hitJ x i k)|| decide ((k:Int)∈r.l.take n)).length:=by rw [tab11_len];omega
    have ixm:(0:Int)≤(m:Int)∧(m:Int) < 11:=by omega
    ((conv=>whnf);repeat' ((first|((with_reducible refine br_id ?_);((with_reducible refine br_dec (fun hx=>?_) (fun hx=>?_))<;>(try (exfalso;first|omega|contradiction))))|((with_reducible refine ar_id ?_);(refine ar_i64 (by omega) ?_))|((with_reducible refine cn_id ?_);(refine cn rfl ?_))|((with_reducible refine ld_id ?_);((refine ld_own0 hp 0 rfl hA2 n rfl hvv (by rfl) ?_)))|((with_reducible refine st_id ?_);((refine st_arr hp 1 rfl (m) (ad1 _ _) (true) rfl hm11 rfl ?_);clear hp;intro w hp;dsimp only [List.set] at hp))|((with_reducible refine gen_id ?_);first|((refine gen_ixs rfl rfl hA2 rfl rfl (by omega) ?_))|((refine gen_ixs rfl rfl rfl rfl rfl (by omega) ?_))|(apply gen_len;exact rfl;exact rfl;assumption)))<;>(conv=>whnf)))
    all_goals
     rw [hst] at hp
     exact lp_next (n+1) (by show r.l.length - (n+1) < r.l.length - n;omega) (by (repeat' (first|exact trivial|(refine ⟨rfl,?_⟩)))) ⟨by show n+1≤_;omega,hp⟩
   ·((conv=>whnf);repeat' ((first|((with_reducible refine br_id ?_);((with_reducible refine br_dec (fun hx=>?_) (fun hx=>?_))<;>(try (exfalso;first|omega|contradiction))))|((with_reducible refine ar_id ?_);(refine ar_i64 (by omega) ?_))|((with_reducible refine gen_id ?_);(apply gen_len;exact rfl;exact rfl;assumption)))<;>(conv=>whnf)))
    have hst:tab11 (fun k=>(badB x k|| hitJ x i k)|| decide ((k:Int)∈r.l.take n))=tab11 fun k=>badB x k|| hitJ x (i+1) k:=tab11_congr fun k _=>by rw [List.take_of_length_le hng,hr,hit_next hyy,Bool.or_assoc]
    rw [hst] at hp
    exact lp_next (i+1) (by show x.jobs.l.length - (i+1) < x.jobs.l.length - i;omega) (by (repeat' (first|exact trivial|(refine ⟨rfl,?_⟩)))) ⟨by show i+1≤_;omega,hp.tail⟩
  ·obtain rfl:i=x.jobs.l.length:=by omega
   obtain ⟨F,hF⟩:∃F:Nat→Bool,(fun k=>badB x k|| hitJ x x.jobs.l.length k)=F:=⟨_,rfl⟩
   have hFk:∀k,k < 10→F (k+1)= !((ruleA x).getD k true):=fun k hk=>by rw [←hF];exact bad_is x hk
   rw [hF] at hp
   clear hF
   ((conv=>whnf);repeat' ((first|((with_reducible refine br_id ?_);((with_reducible refine br_dec (fun hx=>?_) (fun hx=>?_))<;>(try (exfalso;first|omega|contradiction))))|((with_reducible refine ld_id ?_);(apply ld_hs hp;(focus repeat' constructor);exact rfl))|((with_reducible refine gen_id ?_);(apply gen_len;exact rfl;exact rfl;assumption)))<;>(conv=>whnf)))
   replace hp:=hp.nilRow 3 1 iL
   refine lp_inv (α:=Nat×Sl Int) (fun a=> [(1,ptr b1),(3, .slice (some ⟨bm,0,none⟩) 11 11),(7,a.2.v),(8,i64 (a.1+1:Nat))]) (fun a w=>a.1≤10∧a.2.l=brkL (ruleA x) a.1∧Hp N0 w0 w [rowR 3 1 iL a.2,badR bm (tab11 F),cel b1 31 x.c.toArray]) (fun a=>10 - a.1) (0,Sl.nil) (by (repeat' (first|exact trivial|(refine ⟨rfl,?_⟩)))) ⟨by omega,by simp [brkL,Sl.nil],hp⟩ ?_
   clear hp
   rintro ⟨k,r⟩ e0 w ⟨hk,hr,hp⟩
   dsimp only at hk hr hp ⊢
   have hrl:r.l.length≤10:=by rw [hr];exact Nat.le_trans (brkL_len _ _) hk
   rcases Nat.lt_or_ge k 10 with hkl|hkg
   ·have hFv:=tab11_at (f:=F) (show k+1 < 11 by omega)
    have hFq:=hFk k hkl
    cases hq:(ruleA x).getD k true with
    |true=>
     rw [hFq,hq] at hFv
     replace hFv:(tab11 F)[k+1]? =some false:=hFv
     ((conv=>whnf);repeat' ((first|((with_reducible refine br_id ?_);first|(with_reducible refine br_f ?_)|((with_reducible refine br_dec (fun hx=>?_) (fun hx=>?_))<;>(try (exfalso;first|omega|contradiction))))|((with_reducible refine ar_id ?_);(refine ar_i64 (by omega) ?_))|((with_reducible refine ld_id ?_);((refine ld_arr hp 1 rfl (k+1) (ad1 _ _) ‹_› ?_)))|((with_reducible refine gen_id ?_);((refine gen_ixs rfl rfl rfl rfl rfl (by omega) ?_))))<;>(conv=>whnf)))
     all_goals first
      |(exfalso;omega)
      |exact lp_next (k+1,r) (by show 10 - (k+1) < 10 - k;omega) (by (repeat' (first|exact trivial|(refine ⟨rfl,?_⟩)))) ⟨by show k+1≤10;omega,by show r.l=brkL _ (k+1);rw [brkL_t hq];exact hr,hp⟩
    |false=>
     rw [hFq,hq] at hFv
     replace hFv:(tab11 F)[k+1]? =some true:=hFv
     ((conv=>whnf);repeat' ((first|((with_reducible refine br_id ?_);first|(with_reducible refine br_t ?_)|((with_reducible refine br_dec (fun hx=>?_) (fun hx=>?_))<;>(try (exfalso;first|omega|contradiction))))|((with_reducible refine ar_id ?_);(refine ar_i64 (by omega) ?_))|((with_reducible refine ld_id ?_);((refine ld_arr hp 1 rfl (k+1) (ad1 _ _) ‹_› ?_)))|((with_reducible refine gen_id ?_);first|((refine gen_ixs rfl rfl rfl rfl rfl (by omega) ?_))|((refine gen_bs rfl hp el_int iL [((k+1:Nat):Int)] [i64 (k+1:Nat)] rfl rfl rfl (fun _ hh=>by simp at hh;subst hh;rfl) (by omega) ?_);clear hp;intro br w hp)|((refine gen_app (s:=r) rfl hp 1 rfl el_int rfl ⟨some ⟨br,0,none⟩,1, [((k+1:Nat):Int)]⟩ rfl (hp.row (j:=0) rfl) (fun _ _=>rfl) int_one (by simp only [List.length_cons,List.length_nil];omega) (by simp only [maxLen,List.length_cons,List.length_nil];omega) ?_);clear hp;intro A2 c2 w hp;dsimp only [List.set] at hp)))<;>(conv=>whnf)))
     all_goals first
      |(exfalso;omega)
      |exact lp_next (k+1,⟨A2,c2,r.l++ [((k+1:Nat):Int)]⟩) (by show 10 - (k+1) < 10 - k;omega) (by (repeat' (first|exact trivial|(refine ⟨rfl,?_⟩)))) ⟨by show k+1≤10;omega,by show r.l++ [((k+1:Nat):Int)]=brkL _ (k+1);rw [brkL_f hq,hr];rfl,hp.pick (rs':= [_,_,_]) [1,2,3] (by decide) rfl⟩
   ·obtain rfl:k=10:=by omega
    ((conv=>whnf);repeat' (((with_reducible refine br_id ?_);((with_reducible refine br_dec (fun hx=>?_) (fun hx=>?_))<;>(try (exfalso;first|omega|contradiction))))<;>(conv=>whnf)))
    exact ps_of ⟨r,hr,rfl,hp.made1 (j:=0) rfl⟩
end Go.Proofs.YteabebmlclgakaaGreat
/- Aud11: strings.Join, the rules' names. Of rows of at most a thousand strings. -/
namespace Go.Proofs.YteabebmlclgakaaGreat
open Go.RowKit Go.Shelf
set_option maxRecDepth 100000
set_option maxHeartbeats 4000000
def joinY_ren : Go.Shelf.Ren := ⟨fun | 156 => 88 | 165 => 153 | 166 => 154 | 169 => 155 | 240 => 206 | 241 => 207 | 276 => 237 | 277 => 238 | n => n, fun | 31 => 78 | 9 => 9 | 3 => 3 | 4 => 4 | 0 => 0 | 20 => 20 | 72 => 217 | 76 => 220 | 70 => 215 | 37 => 38 | 75 => 219 | 127 => 284 | 164 => 314 | 5 => 5 | 80 => 222 | n => n, fun | n => n⟩
theorem joinY : Go.Proofs.Lays.n156 Tryz.prog joinY_ren := {
  mixed := by kernel_rfl
  f156 := Tryz.func88.trans (congrArg some (by kernel_rfl))
  f165 := Tryz.func153.trans (congrArg some (by kernel_rfl))
  f166 := Tryz.func154.trans (congrArg some (by kernel_rfl))
  f169 := Tryz.func155.trans (congrArg some (by kernel_rfl))
  f240 := Tryz.func206.trans (congrArg some (by kernel_rfl))
  f241 := Tryz.func207.trans (congrArg some (by kernel_rfl))
  f276 := Tryz.func237.trans (congrArg some (by kernel_rfl))
  f277 := Tryz.func238.trans (congrArg some (by kernel_rfl))
  t0 := Tryz.underlying0
  a0 := Tryz.isAgg0
  z0 := Tryz.sizeOf0
  v0 := Tryz.zeroValue0
  t3 := Tryz.underlying3
  a3 := Tryz.isAgg3
  z3 := Tryz.sizeOf3
  v3 := Tryz.zeroValue3
  t4 := Tryz.underlying4
  a4 := Tryz.isAgg4
  z4 := Tryz.sizeOf4
  v4 := Tryz.zeroValue4
  t9 := Tryz.underlying9
  a9 := Tryz.isAgg9
  z9 := Tryz.sizeOf9
  v9 := Tryz.zeroValue9
  t20 := Tryz.underlying20
  a20 := Tryz.isAgg20
  z20 := Tryz.sizeOf20
  v20 := Tryz.zeroValue20
  t31 := Tryz.underlying78
  a31 := Tryz.isAgg78
  z31 := Tryz.sizeOf78
  v31 := Tryz.zeroValue78
  t37 := Tryz.underlying38
  a37 := Tryz.isAgg38
  z37 := Tryz.sizeOf38
  v37 := Tryz.zeroValue38
  t70 := Tryz.underlying215
  a70 := Tryz.isAgg215
  z70 := Tryz.sizeOf215
  v70 := Tryz.zeroValue215
  t72 := Tryz.underlying217
  a72 := Tryz.isAgg217
  z72 := Tryz.sizeOf217
  v72 := Tryz.zeroValue217
  t75 := Tryz.underlying219
  a75 := Tryz.isAgg219
  z75 := Tryz.sizeOf219
  v75 := Tryz.zeroValue219
  t76 := Tryz.underlying220
  a76 := Tryz.isAgg220
  z76 := Tryz.sizeOf220
  v76 := Tryz.zeroValue220
  t127 := Tryz.underlying284
  a127 := Tryz.isAgg284
  z127 := Tryz.sizeOf284
  v127 := Tryz.zeroValue284
  t164 := Tryz.underlying314
  a164 := Tryz.isAgg314
  z164 := Tryz.sizeOf314
  v164 := Tryz.zeroValue314 }
theorem joinX:Builder.Extra Tryz.prog joinY_ren where
 sizeBuilder:=by kernel_rfl
 liesBuilder:=by kernel_rfl
 t5:=Tryz.underlying5
 a5:=Tryz.isAgg5
 z5:=Tryz.sizeOf5
 v5:=Tryz.zeroValue5
 infoByte:=by kernel_rfl
 cellsByte:=by kernel_rfl
 sizeByte:=by kernel_rfl
 neB5:=by decide
def joinL (l:List (List UInt8)):List UInt8:=Lib.join l [32]
theorem join_snoc (xs:List (List UInt8)) (y:List UInt8):joinL (xs++ [y])=if xs= [] then y else joinL xs++ [32]++y:=by
 cases xs with
 |nil=>exact Lib.join_one _ _
 |cons x r=>
  rw [if_neg (by simp)]
  show Lib.join (x::(r++ [y])) [32]=Lib.join (x::r) [32]++ [32]++y
  rw [Lib.join_cons,Lib.join_cons]
  simp [Lib.joinTail,List.append_assoc]
theorem lens_le:∀l:List (List UInt8),(∀y∈l,y.length≤8)→Lib.lens l≤8*l.length
 | [],_=>by simp [Lib.lens]
 |x::r,h=>by
  have h1:=lens_le r fun y hy=>h y (List.mem_cons_of_mem _ hy)
  have h2:=h x List.mem_cons_self
  simp only [Lib.lens,List.map_cons,List.sum_cons,List.length_cons] at h1 ⊢
  omega
theorem joinL_len (l:List (List UInt8)) (h:∀y∈l,y.length≤8):(joinL l).length≤9*l.length:=by
 cases l with
 |nil=>simp [joinL,Lib.join_nil]
 |cons x r=>
  have h1:=lens_le _ h
  have h2:=Lib.join_length x r [32]
  simp only [List.length_cons,List.length_nil] at h1 h2 ⊢
  show (Lib.join (x::r) [32]).length≤_
  omega
theorem sjoin_any {B:Nat} {w0:World} {s:Sl (List UInt8)} (h:SlAt B w0 sL 1 s) (hBw:B≤w0.heap.size) (hn:s.l.length≤1000) (hl:(joinL s.l).length≤1000000):Calls Tryz.prog 88 #[s.v,str [32]] w0 fun e w'=>e= .returned (str (joinL s.l))∧Chg N0 w0 w':=by
 by_cases hne:s.l= []
 ·have hs:s.v= .slice s.A 0 s.c:=by unfold Sl.v;rw [hne];rfl
  rw [hs,hne]
  refine (Any.strings_Join_none joinY joinX s.A s.c ⟨[32].toArray⟩ w0).mono ?_
  rintro e w' ⟨rfl,rfl⟩
  exact ⟨rfl,Chg.refl _ _⟩
 ·obtain ⟨b,o,hA,hb,hrow⟩:=h.row hne
  have e1:(s.l.map fun x=>(⟨x.toArray⟩:ByteArray)).map (·.data.toList)=s.l:=by
   rw [List.map_map]
   exact (List.map_congr_left (g:=id) fun x _=>by simp).trans (List.map_id _)
  have hj:=Any.strings_Join joinY joinX b o s.c (s.l.map fun x=>(⟨x.toArray⟩:ByteArray)) ⟨[32].toArray⟩ w0 (fun j x hx=>by
   rw [List.getElem?_map] at hx
   cases hy:s.l[j]? with
   |none=>rw [hy] at hx;cases hx
   |some y=>
    rw [hy] at hx
    cases hx
    have:=hrow j y hy 0 (str y) rfl
    rwa [Nat.mul_one,Nat.add_zero] at this) (by omega) (by rw [List.length_map];omega) (by rw [List.length_map];exact h.le) (by rw [e1];exact Nat.le_trans hl (by omega))
  rw [e1,List.length_map] at hj
  have hs:s.v= .slice (some ⟨b,o,none⟩) s.l.length s.c:=by unfold Sl.v;rw [hA]
  rw [hs]
  refine hj.mono ?_
  rintro e w' ⟨rfl,hw⟩
  exact ⟨rfl,Chg.of_below hw⟩
def nameOf (v:Int):List UInt8:=(namesL[(v - 1).toNat]?).getD []
def nameQ (v:Int):List UInt8:=if 1≤v∧v≤10 then nameOf v else []
theorem nameOf_len (v:Int):(nameOf v).length≤8:=by
 unfold nameOf
 cases h:namesL[(v - 1).toNat]? with
 |none=>exact Nat.zero_le _
 |some y=>exact (show ∀z∈namesL,z.length≤8 by decide) y (List.mem_of_getElem? h)
theorem name_at {m:Nat} (h:m < 10):namesL[m]? =some (nameOf ((m:Int)+1)):=by
 unfold nameOf
 rw [show ((m:Int)+1 - 1).toNat=m by omega,List.getElem?_eq_getElem (show m < namesL.length from h)]
 rfl
theorem ten_of {v:Int} (h1:1≤v) (h2:v≤10):v=1∨v=2∨v=3∨v=4∨v=5∨v=6∨v=7∨v=8∨v=9∨v=10:=by omega
theorem aname_any (w0:World) (v:Int) (h: -9223372036854775808≤v∧v≤9223372036854775807):Calls Tryz.prog 33 #[i64 v] w0 fun e w'=>e= .returned (str (nameQ v))∧Chg N0 w0 w':=by
 have hp:=Hp.start (S:=N0) w0
 by_cases hv:1≤v∧v≤10
 ·obtain ⟨q,hq⟩:∃q,nameQ v=q:=⟨_,rfl⟩
  rw [hq]
  rcases ten_of hv.1 hv.2 with rfl|rfl|rfl|rfl|rfl|rfl|rfl|rfl|rfl|rfl
  all_goals
   clear hv h
   obtain rfl:=hq
   refine calls_x (args:= [_]) tabOk Tryz.func33 Tryz.ntmps33 Tryz.results33 rfl (Nat.le_of_ble_eq_true rfl) ?_
   ((conv=>whnf);repeat' ((first|((with_reducible refine br_id ?_);first|(with_reducible refine br_f ?_)|((with_reducible refine br_dec (fun hx=>?_) (fun hx=>?_))<;>(try (exfalso;first|omega|contradiction))))|((with_reducible refine ar_id ?_);(refine ar_i64 (by omega) ?_))|((with_reducible refine cn_id ?_);(refine cn rfl ?_))|((with_reducible refine ld_id ?_);(apply ld_hs hp;(focus repeat' constructor);exact rfl))|((with_reducible refine al_id ?_);(refine al_cel hp ?_;clear hp;intro bb w hp))|((with_reducible refine st_id ?_);(apply sta_hs hp;(focus repeat' constructor);exact rfl;exact rfl;clear hp;intro w hp;(try dsimp only [List.set] at hp)))|((with_reducible refine gen_id ?_);(apply gen_ixa;exact rfl;exact rfl;exact rfl;exact rfl;omega))|((with_reducible refine cl_id ?_);((refine cl_eq ((arules_any _)) rfl rfl ?_;rintro e w ⟨rfl,hcc⟩;replace hp:=hp.call0 hcc;refine ⟨_,rfl,?_⟩))))<;>(conv=>whnf)))
   all_goals exact ps_val rfl ⟨rfl,hp.chg⟩
 ·have hq:nameQ v= []:=if_neg hv
  rw [hq]
  refine calls_x (args:= [_]) tabOk Tryz.func33 Tryz.ntmps33 Tryz.results33 rfl (Nat.le_of_ble_eq_true rfl) ?_
  ((conv=>whnf);repeat' ((first|((with_reducible refine br_id ?_);first|(with_reducible refine br_t ?_)|(with_reducible refine br_f ?_)|((with_reducible refine br_dec (fun hx=>?_) (fun hx=>?_))<;>(try (exfalso;first|omega|contradiction))))|((with_reducible refine cn_id ?_);(refine cn rfl ?_))|((with_reducible refine al_id ?_);(refine al_cel hp ?_;clear hp;intro bb w hp))|((with_reducible refine st_id ?_);(apply sta_hs hp;(focus repeat' constructor);exact rfl;exact rfl;clear hp;intro w hp;(try dsimp only [List.set] at hp)))|((with_reducible refine cl_id ?_);((refine cl_eq ((arules_any _)) rfl rfl ?_;rintro e w ⟨rfl,hcc⟩;replace hp:=hp.call0 hcc;refine ⟨_,rfl,?_⟩))))<;>(conv=>whnf)))
  all_goals first
   |(exfalso;omega)
   |exact ps_val rfl ⟨rfl,hp.chg⟩
end Go.Proofs.YteabebmlclgakaaGreat
