/- MPlanQuiet25: Shelf2, Shelf3, RightP, PlanQ. -/
import Derived.Test.YteabebmlclgakaaGreatMPlanQuiet24
import Derived.Test.YteabebmlclgakaaGreatMPlanQuiet22
import Derived.Test.YteabebmlclgakaaGreatMPlanQuiet15
set_option linter.unusedSimpArgs false
set_option linter.unusedVariables false
/- Shelf2: shelf.Add. -/
namespace Go.Proofs.YteabebmlclgakaaGreat
open Go.RowKit
set_option maxRecDepth 100000
set_option maxHeartbeats 2000000
theorem byKey_none {W:List BlP} {k:Key} (h:k∉W.map (·.key)):byKey W k=none:=by
 unfold byKey
 rw [List.find?_eq_none]
 intro y hy
 simp only [decide_eq_true_eq]
 exact fun e=>h (List.mem_map.2 ⟨y,hy,e⟩)
theorem byKey_some {W:List BlP} {k:Key} (hn:(W.map (·.key)).Nodup) {y:BlP} (hy:y∈W) (hk:y.key=k):byKey W k=some y:=by
 unfold byKey
 induction W with
 |nil=>cases hy
 |cons z W ih=>
  rw [List.map_cons,List.nodup_cons] at hn
  rw [List.find?_cons]
  rcases List.mem_cons.1 hy with rfl|hm
  ·simp [hk]
  ·have hz:z.key≠k:=fun e=>hn.1 (List.mem_map.2 ⟨y,hm,hk.trans e.symm⟩)
   simp only [hz,decide_false]
   exact ih hn.2 hm
def addE (W:List BlP) (x:BlP):Nat:=if 600 < x.bytes.length then 3 else if x.key∈W.map (·.key) then 6 else 0
def addW (W:List BlP) (x:BlP):List BlP:=if addE W x=0 then W++ [x] else W
theorem idx_le {g:Shf} {W:List BlP} (hI:ShI g W):(∀h,(idx g.lh h).l.length≤W.length)∧(∀s,(idx g.lm s).l.length≤W.length):=
 ⟨fun h=>by rw [hI.hints,List.length_map];exact List.length_filter_le _ _,fun s=>by rw [hI.mine,List.length_map];exact List.length_filter_le _ _⟩
theorem in_hint {g:Shf} {W:List BlP} (hI:ShI g W) (h:Hint) (k:Key):k∈(idx g.lh h).l↔∃y∈W,y.hint=h∧y.key=k:=by
 rw [hI.hints]
 simp only [List.mem_map,List.mem_filter,decide_eq_true_eq]
 exact ⟨fun ⟨y,⟨h1,h2⟩,h3⟩=>⟨y,h1,h2,h3⟩,fun ⟨y,h1,h2,h3⟩=>⟨y,⟨h1,h2⟩,h3⟩⟩
theorem in_mine {g:Shf} {W:List BlP} (hI:ShI g W) (k:Key):k∈(idx g.lm k.ses).l↔k∈W.map (·.key):=by
 rw [hI.mine]
 simp only [List.mem_map,List.mem_filter,decide_eq_true_eq]
 exact ⟨fun ⟨y,⟨h1,_⟩,h3⟩=>⟨y,h1,h3⟩,fun ⟨y,h1,h3⟩=>⟨y,⟨h1,by rw [h3]⟩,h3⟩⟩
theorem ShI.hint_back {g:Shf} {W:List BlP} (hI:ShI g W) {l':List (Hint×Sl Key)} (h:∀x,(idx l' x).l=(idx g.lh x).l):ShI {g with lh:=l',nh:=g.nh+1 - 1} W:=
 ⟨hI.nodup,fun x=>by show (idx l' x).l=_;rw [h,hI.hints],hI.mine,hI.all,hI.len,by show g.nh+1 - 1=_;rw [hI.nh];omega,hI.nm,hI.bytes,hI.data,hI.many,hI.next,hI.ord⟩
theorem ShI.add {g:Shf} {W:List BlP} (hI:ShI g W) {x:Blob} {r:Bytes} (hr:r.l=x.data.l) (hlen:x.data.l.length≤600) (hk:x.key∉W.map (·.key)) (hW:W.length < 10000) (hnx:g.next < 100000) {s':Sl Key} {t':Sl Key} (hs:s'.l=(idx g.lh x.hint).l++ [x.key]) (ht:t'.l=(idx g.lm x.key.ses).l++ [x.key]):
  ShI {g with lh:=mput g.lh x.hint s',nh:=g.nh+1,lm:=mput g.lm x.key.ses t',nm:=g.nm+1,la:=mput g.la x.key ⟨{x with data:=r},g.next⟩,next:=g.next+1,bytes:=g.bytes+(x.data.l.length:Int)} (W++ [x.p]) where
 nodup:=by
  rw [List.map_append,List.nodup_append]
  refine ⟨hI.nodup,by simp,fun a ha b hb=>?_⟩
  simp at hb
  subst hb
  exact fun e=>hk (by have h1:a=x.key:=e;rw [←h1];exact ha)
 hints h:=by
  show (idx (mput g.lh x.hint s') h).l=_
  rw [idx_mput,List.filter_append,List.map_append]
  by_cases hh:h=x.hint
  ·subst hh
   rw [if_pos rfl,hs,hI.hints]
   simp [Blob.p]
  ·rw [if_neg hh,hI.hints]
   have:¬x.hint=h:=fun e=>hh e.symm
   simp [Blob.p,this]
 mine s:=by
  show (idx (mput g.lm x.key.ses t') s).l=_
  rw [idx_mput,List.filter_append,List.map_append]
  by_cases hh:s=x.key.ses
  ·subst hh
   rw [if_pos rfl,ht,hI.mine]
   simp [Blob.p]
  ·rw [if_neg hh,hI.mine]
   have:¬x.key.ses=s:=fun e=>hh e.symm
   simp [Blob.p,this]
 all k:=by
  show (mlk (mput g.la x.key _) k).map _=_
  unfold mlk
  rw [lookup_mput]
  by_cases hh:k=x.key
  ·subst hh
   rw [if_pos rfl]
   have h1:=byKey_none hk
   unfold byKey at h1 ⊢
   rw [List.find?_append,h1]
   simp [Blob.p,hr]
  ·rw [if_neg hh]
   have h1:=hI.all k
   unfold mlk at h1
   rw [h1]
   have:¬x.key=k:=fun e=>hh e.symm
   unfold byKey
   rw [List.find?_append]
   simp [Blob.p,this]
 len:=by
  show (mput g.la x.key _).length=_
  have hno:x.key∉g.la.map (·.1):=fun hm=>by
   have h1:=hI.all x.key
   rw [byKey_none hk] at h1
   have h2:g.la.lookup x.key=none:=by simpa [mlk] using h1
   rw [List.lookup_eq_none_iff] at h2
   obtain ⟨p,hp,hpk⟩:=List.mem_map.1 hm
   have:=h2 p hp
   simp [hpk] at this
  unfold mput
  rw [if_neg hno,List.length_append,List.length_append,hI.len]
  rfl
 nh:=by show g.nh+1=_;rw [hI.nh,List.length_append];simp
 nm:=by show g.nm+1=_;rw [hI.nm,List.length_append];simp
 bytes:=by
  show g.bytes+_=_
  rw [hI.bytes,List.map_append,List.sum_append]
  simp [Blob.p]
 data y hy:=by
  rcases List.mem_append.1 hy with h1|h1
  ·exact hI.data y h1
  ·simp at h1
   subst h1
   exact hlen
 many:=by rw [List.length_append];simp;omega
 next:=by have:=hI.next;show 0≤g.next+1∧g.next+1≤100000;omega
 ord:=by
  obtain ⟨pl,h1,h2,h3⟩:=hI.ord
  have hkeys:∀y∈W,y.key≠x.key:=fun y hy e=>hk (List.mem_map.2 ⟨y,hy,e⟩)
  refine ⟨fun k=>if k=x.key then g.next else pl k,fun k e he=>?_,?_,fun y hy=>?_⟩
  ·have he:(mput g.la x.key ⟨{x with data:=r},g.next⟩).lookup k=some e:=he
   rw [lookup_mput] at he
   by_cases hh:k=x.key
   ·rw [if_pos hh] at he
    cases he
    show g.next=if k=x.key then g.next else pl k
    rw [if_pos hh]
   ·rw [if_neg hh] at he
    show e.place=if k=x.key then g.next else pl k
    rw [if_neg hh]
    exact h1 k e he
  ·rw [List.pairwise_append]
   refine ⟨h2.imp_of_mem fun {a b} ha hb hab=>?_,List.pairwise_singleton _ _,fun a ha b hb=>?_⟩
   ·show (if a.key=x.key then g.next else pl a.key) < (if b.key=x.key then g.next else pl b.key)
    rw [if_neg (hkeys a ha),if_neg (hkeys b hb)]
    exact hab
   ·simp at hb
    subst hb
    show (if a.key=x.key then g.next else pl a.key) < (if x.key=x.key then g.next else pl x.key)
    rw [if_neg (hkeys a ha),if_pos rfl]
    exact (h3 a ha).2
  ·have h0:=hI.next
   show 0≤(if y.key=x.key then g.next else pl y.key)∧(if y.key=x.key then g.next else pl y.key) < g.next+1
   rcases List.mem_append.1 hy with hy|hy
   ·rw [if_neg (hkeys y hy)]
    have:=h3 y hy
    omega
   ·simp at hy
    subst hy
    rw [if_pos (show x.p.key=x.key from rfl)]
    omega
theorem la_new {g:Shf} {W:List BlP} (hI:ShI g W) {k:Key} (hk:k∉W.map (·.key)) (v:Ent):mput g.la k v=g.la++ [(k,v)]:=by
 have hno:k∉g.la.map (·.1):=fun hm=>by
  have h1:=hI.all k
  rw [byKey_none hk] at h1
  have h2:g.la.lookup k=none:=by simpa [mlk] using h1
  rw [List.lookup_eq_none_iff] at h2
  obtain ⟨p,hp,hpk⟩:=List.mem_map.1 hm
  have:=h2 p hp
  simp [hpk] at this
 unfold mput
 rw [if_neg hno]
theorem bytes_le:∀(W:List BlP),(∀y∈W,y.bytes.length≤600)→((W.map (·.bytes.length)).sum:Nat)≤600*W.length
 | [],_=>by simp
 |y::W,hd=>by
  rw [List.map_cons,List.sum_cons,List.length_cons]
  have h1:=bytes_le W fun z hz=>hd z (List.mem_cons_of_mem _ hz)
  have h2:=hd y (List.mem_cons_self ..)
  omega
theorem shadd_no {B:Nat} {w0:World} {b:Nat} {g:Shf} {W:List BlP} (h:(star (shRs b g)).ok w0) (hI:ShI g W) (x:Blob) (hxd:SlOut (star (shRs b g)).dom B w0 u8L 1 x.data) (hBw:B≤w0.heap.size) (hW:W.length < 10000) (hnx:g.next < 100000) (hne0:addE W x.p≠0):Calls Tryz.prog 119 #[ptr b,x.v] w0 fun e w'=>
  ∃g',e= .returned (errno (addE W x.p))∧ShI g' (addW W x.p)∧g'.next≤g.next+1∧Mut (star (shRs b g)) (star (shRs b g')) w0 w':=by
 have hp:=Hp.open h
 have u2:=Tryz.underlying38
 have hmax:x.data.l.length≤9223372036854775807:=by have:=hxd.at_.le;have:=hxd.at_.max;simp only [maxLen] at this;omega
 have hbl:=hI.bytes
 have hbs:=bytes_le W hI.data
 have hlh:=(idx_le hI).1
 have hlm:=(idx_le hI).2
 have hnh:=hI.nh
 have hnm:=hI.nm
 have hnx0:=hI.next
 have hmany:=hI.many
 by_cases h6:600 < x.data.l.length
 ·have hE:addE W x.p=3:=if_pos h6
  rw [addW,hE,if_neg (by decide)]
  refine calls_x (args:= [_,_]) tabOk Tryz.func119 Tryz.ntmps119 Tryz.results119 rfl (Nat.le_of_ble_eq_true rfl) ?_
  ((conv=>whnf);repeat' ((first|((with_reducible refine br_id ?_);first|(with_reducible refine br_f ?_)|((with_reducible refine br_dec (fun hx=>?_) (fun hx=>?_))<;>(try (exfalso;first|omega|contradiction))))|((with_reducible refine cn_id ?_);(refine cn rfl ?_))|((with_reducible refine ld_id ?_);(apply ld_hs hp;(focus repeat' constructor);exact rfl))|((with_reducible refine al_id ?_);(refine al_cel hp ?_;clear hp;intro bb w hp))|((with_reducible refine st_id ?_);(apply sta_hs hp;(focus repeat' constructor);exact rfl;exact rfl;clear hp;intro w hp;(try dsimp only [List.set] at hp)))|((with_reducible refine gen_id ?_);first|(apply gen_build;exact rfl;exact rfl)|(apply gen_len;exact rfl;exact rfl;assumption))|((with_reducible refine cl_id ?_);((refine cl_eq ((shnone_any (cell_of_heap (hp.cel_get (j:=2) rfl) rfl))) rfl rfl ?_;rintro e w ⟨rfl,hcc⟩;replace hp:=hp.call0 hcc;refine ⟨_,rfl,?_⟩))))<;>(conv=>whnf)))
  exact ps_val (v':=errno 3) rfl ⟨g,rfl,hI,by omega,hp.tail.tail.shut (.refl _)⟩
 by_cases hk:x.key∈W.map (·.key)
 ·have hE:addE W x.p=6:=by unfold addE;rw [if_neg (show ¬600 < x.p.bytes.length from h6),if_pos (show x.p.key∈W.map (·.key) from hk)]
  rw [addW,hE,if_neg (by decide)]
  obtain ⟨y,hyW,hyk⟩:=List.mem_map.1 hk
  by_cases hyh:y.hint=x.hint
  ·have hin:x.key∈(idx g.lh x.hint).l:=(in_hint hI x.hint x.key).2 ⟨y,hyW,hyh,hyk⟩
   refine calls_x (args:= [_,_]) tabOk Tryz.func119 Tryz.ntmps119 Tryz.results119 rfl (Nat.le_of_ble_eq_true rfl) ?_
   ((conv=>whnf);repeat' ((first|((with_reducible refine br_id ?_);first|(with_reducible refine br_f ?_)|((with_reducible refine br_dec (fun hx=>?_) (fun hx=>?_))<;>(try (exfalso;first|omega|contradiction))))|((with_reducible refine cn_id ?_);(refine cn rfl ?_))|((with_reducible refine ld_id ?_);(apply ld_hs hp;(focus repeat' constructor);exact rfl))|((with_reducible refine ldn_id ?_);first|(apply lda_hs hp;(focus repeat' constructor);exact rfl)|(apply ldn_hs hp;(focus repeat' constructor);exact rfl;exact rfl))|((with_reducible refine al_id ?_);(refine al_cel hp ?_;clear hp;intro bb w hp))|((with_reducible refine st_id ?_);(apply sta_hs hp;(focus repeat' constructor);exact rfl;exact rfl;clear hp;intro w hp;(try dsimp only [List.set] at hp)))|((with_reducible refine gen_id ?_);first|(apply gen_build;exact rfl;exact rfl)|(apply gen_len;exact rfl;exact rfl;assumption))|((with_reducible refine dr_id ?_);(refine dr_auto tabOk (by kernel_rfl) (by decide+kernel) ?_;(try replace hp:=hp.drew)))|((with_reducible refine cl_id ?_);((refine cl_eq ((shnone_any (cell_of_heap (hp.cel_get (j:=2) rfl) rfl))) rfl rfl ?_;rintro e w ⟨rfl,hcc⟩;replace hp:=hp.call0 hcc;refine ⟨_,rfl,?_⟩))))<;>(conv=>whnf)))
   refine cl_eq (inoteHK (hp.get (j:=3) rfl) x.hint x.key (by have:=hlh x.hint;omega) (by omega)) rfl rfl ?_
   rintro e w (⟨-,rfl,hc⟩|⟨hno, -⟩)
   ·replace hp:=hp.call0 hc
    refine ⟨_,rfl,?_⟩
    ((conv=>whnf);repeat' (((with_reducible refine br_id ?_);first|(with_reducible refine br_f ?_)|(with_reducible refine br_not ?_))<;>(conv=>whnf)))
    exact ps_val (v':=errno 6) rfl ⟨g,rfl,hI,by omega,hp.tail.tail.shut (.refl _)⟩
   ·exact absurd hin hno
  ·have hni:x.key∉(idx g.lh x.hint).l:=fun hm=>by
    obtain ⟨z,hz1,hz2,hz3⟩:=(in_hint hI x.hint x.key).1 hm
    have h1:=byKey_some hI.nodup hyW hyk
    have h2:=byKey_some hI.nodup hz1 hz3
    rw [h1] at h2
    cases h2
    exact hyh hz2
   have hmine:x.key∈(idx g.lm x.key.ses).l:=(in_mine hI x.key).2 hk
   obtain ⟨en,hen,henp⟩:∃en,mlk g.la x.key=some en∧en.blob.p=y:=by
    have h1:=hI.all x.key
    rw [byKey_some hI.nodup hyW hyk] at h1
    cases hl:mlk g.la x.key with
    |none=>rw [hl] at h1;cases h1
    |some en=>rw [hl] at h1;exact ⟨en,rfl,Option.some.inj h1⟩
   have hlk:(g.la.lookup x.key).getD Ent.z=en:=by unfold mlk at hen;rw [hen];rfl
   have hne:¬en.blob.hint=x.hint:=fun e=>hyh (by rw [←henp];exact e)
   have hq:EqIs Tryz.prog 37 en.blob.hint.v x.hint.v false:=by have:=eq_hint en.blob.hint x.hint;rwa [decide_eq_false hne] at this
   have hbn:(if BinOp.neq=BinOp.eql then false else !false)=true:=rfl
   refine calls_x (args:= [_,_]) tabOk Tryz.func119 Tryz.ntmps119 Tryz.results119 rfl (Nat.le_of_ble_eq_true rfl) ?_
   ((conv=>whnf);repeat' ((first|((with_reducible refine br_id ?_);first|(with_reducible refine br_f ?_)|((with_reducible refine br_dec (fun hx=>?_) (fun hx=>?_))<;>(try (exfalso;first|omega|contradiction))))|((with_reducible refine cn_id ?_);(refine cn rfl ?_))|((with_reducible refine ld_id ?_);(apply ld_hs hp;(focus repeat' constructor);exact rfl))|((with_reducible refine ldn_id ?_);first|(apply lda_hs hp;(focus repeat' constructor);exact rfl)|(apply ldn_hs hp;(focus repeat' constructor);exact rfl;exact rfl))|((with_reducible refine al_id ?_);(refine al_cel hp ?_;clear hp;intro bb w hp))|((with_reducible refine st_id ?_);(apply sta_hs hp;(focus repeat' constructor);exact rfl;exact rfl;clear hp;intro w hp;(try dsimp only [List.set] at hp)))|((with_reducible refine gen_id ?_);first|(apply gen_build;exact rfl;exact rfl)|(apply gen_len;exact rfl;exact rfl;assumption))|((with_reducible refine dr_id ?_);(refine dr_auto tabOk (by kernel_rfl) (by decide+kernel) ?_;(try replace hp:=hp.drew)))|((with_reducible refine cl_id ?_);((refine cl_eq ((shnone_any (cell_of_heap (hp.cel_get (j:=2) rfl) rfl))) rfl rfl ?_;rintro e w ⟨rfl,hcc⟩;replace hp:=hp.call0 hcc;refine ⟨_,rfl,?_⟩))))<;>(conv=>whnf)))
   refine cl_eq (inoteHK (hp.get (j:=3) rfl) x.hint x.key (by have:=hlh x.hint;omega) (by omega)) rfl rfl ?_
   rintro e w (⟨hm, -⟩|⟨-,rfl,s',hs',hmt⟩)
   ·exact absurd hm hni
   replace hp:=hp.via (j:=3) rfl hmt
   clear hmt
   dsimp only [List.set] at hp
   refine ⟨_,rfl,?_⟩
   ((conv=>whnf);repeat' ((first|((with_reducible refine br_id ?_);first|(with_reducible refine br_t ?_)|(with_reducible refine br_not ?_))|((with_reducible refine ld_id ?_);(apply ld_hs hp;(focus repeat' constructor);exact rfl))|((with_reducible refine ldn_id ?_);(apply lda_hs hp;(focus repeat' constructor);exact rfl))|((with_reducible refine dr_id ?_);(refine dr_auto tabOk (by kernel_rfl) (by decide+kernel) ?_;(try replace hp:=hp.drew))))<;>(conv=>whnf)))
   refine cl_eq (inoteUK (hp.get (j:=4) rfl) x.key.ses x.key (by have:=hlm x.key.ses;omega) (by omega)) rfl rfl ?_
   rintro e w (⟨-,rfl,hc⟩|⟨hno, -⟩)
   ·replace hp:=hp.call0 hc
    refine ⟨_,rfl,?_⟩
    ((conv=>whnf);repeat' ((first|((with_reducible refine br_id ?_);first|((with_reducible refine br_1 hbn ?_))|(with_reducible refine br_f ?_)|(with_reducible refine br_not ?_))|((with_reducible refine ld_id ?_);(apply ld_hs hp;(focus repeat' constructor);exact rfl))|((with_reducible refine ldn_id ?_);first|(apply lda_hs hp;(focus repeat' constructor);exact rfl)|(apply ldn_hs hp;(focus repeat' constructor);exact rfl;exact rfl))|((with_reducible refine dr_id ?_);(refine dr_auto tabOk (by kernel_rfl) (by decide+kernel) ?_;(try replace hp:=hp.drew)))|((with_reducible refine rd_id ?_);first|((refine rd_lookM rfl (mapR_ok.1 (hp.get (j:=5) rfl)) rfl keyK Tryz.underlying176 (z:=Ent.z) rfl x.key rfl hlk ?_))|((refine rd_fld rfl rfl (fld_ent en) ?_))|((refine rd_fld rfl rfl (fld_hint en.blob) ?_))|((refine rd_eqa rfl rfl rfl hq (by kernel_rfl) (.inr rfl) ?_))))<;>(conv=>whnf)))
    have hl2:(idx (mput g.lh x.hint s') x.hint).l=(idx g.lh x.hint).l++ [x.key]:=by rw [idx_mput,if_pos rfl,hs']
    refine cl_eq (istrikeHK (hp.get (j:=3) rfl) x.hint x.key (by rw [hl2,List.length_append];have:=hlh x.hint;simp;omega) (by omega)) rfl rfl ?_
    rintro e w (⟨hno, -⟩|⟨-,rfl,l',hl',hmt⟩)
    ·exact absurd (by rw [hl2];simp) hno
    replace hp:=hp.via (j:=3) rfl hmt
    clear hmt
    dsimp only [List.set] at hp
    refine ⟨_,rfl,?_⟩
    ((conv=>whnf);repeat' ((first|((with_reducible refine br_id ?_);first|(with_reducible refine br_t ?_)|(with_reducible refine br_f ?_)|(with_reducible refine br_not ?_)|((with_reducible refine br_dec (fun hx=>?_) (fun hx=>?_))<;>(try (exfalso;first|omega|contradiction)))|((with_reducible refine br_eq (fun hx=>?_) (fun hx=>?_))<;>(try (exfalso;first|omega|contradiction)))|((with_reducible refine br_ne (fun hx=>?_) (fun hx=>?_))<;>(try (exfalso;first|omega|contradiction)))|((with_reducible refine br_s (fun hx=>?_) (fun hx=>?_))<;>(try (exfalso;first|omega|contradiction))))|((with_reducible refine ar_id ?_);first|(refine ar_i64 (by omega) ?_)|(refine ar_u32 (by omega) ?_)|(refine ar_u64 (by omega) ?_)|(refine ar_u8 (by omega) ?_))|((with_reducible refine cn_id ?_);first|(refine cn rfl ?_)|(refine cn ‹_› ?_)|(refine cn (by omega) ?_)|(refine cn (Chg.refl _ _) ?_))|((with_reducible refine ld_id ?_);first|(apply ld_hs hp;(focus repeat' constructor);exact rfl)|(refine ld_of ‹_› ?_))|((with_reducible refine ldn_id ?_);first|(apply lda_hs hp;(focus repeat' constructor);exact rfl)|(apply ldn_hs hp;(focus repeat' constructor);exact rfl;exact rfl))|((with_reducible refine al_id ?_);(refine al_cel hp ?_;clear hp;intro bb w hp))|((with_reducible refine st_id ?_);first|(apply sta_hs hp;(focus repeat' constructor);exact rfl;exact rfl;clear hp;intro w hp;(try dsimp only [List.set] at hp))|(apply st_hs hp;(focus repeat' constructor);exact rfl;exact rfl;clear hp;intro w hp;(try dsimp only [List.set] at hp)))|((with_reducible refine gen_id ?_);first|(apply gen_build;exact rfl;exact rfl)|(apply gen_len;exact rfl;exact rfl;assumption)|(apply gen_min;exact rfl;exact rfl;exact rfl)|(apply gen_max;exact rfl;exact rfl;exact rfl)|(apply gen_ix;exact rfl;exact rfl;exact rfl;exact rfl;omega)|(apply gen_ixa;exact rfl;exact rfl;exact rfl;exact rfl;omega))|((with_reducible refine dr_id ?_);first|(refine dr_auto tabOk (by kernel_rfl) (by decide+kernel) ?_;(try replace hp:=hp.drew))|(refine dr_autog tabOk (by kernel_rfl) (by decide+kernel) ?_;(try replace hp:=hp.drew))|(refine dr_autot tabOk (by kernel_rfl) (by decide+kernel) ?_;(try replace hp:=hp.drew)))|((with_reducible refine fk_id ?_);(refine fk_mk ?_ ?_))|((with_reducible refine rd_id ?_);first|(apply rd_len;exact rfl;exact rfl;assumption)|(apply rd_ix;exact rfl;exact rfl;exact rfl;exact rfl;omega)))<;>(conv=>whnf)))
    refine ps_val (v':=errno 6) rfl ⟨{g with lh:=l',nh:=g.nh+1 - 1},rfl,hI.hint_back fun z=>?_,by show g.next≤g.next+1;omega,hp.tail.tail.shut (.refl _)⟩
    rw [hl']
    by_cases hz:z=x.hint
    ·subst hz
     rw [if_pos rfl,hl2,List.erase_append_right _ hni]
     simp
    ·rw [if_neg hz,idx_mput,if_neg hz]
   ·exact absurd hmine hno
 ·exact absurd (by unfold addE;rw [if_neg (show ¬600 < x.p.bytes.length from h6),if_neg (show ¬x.p.key∈W.map (·.key) from hk)]) hne0
end Go.Proofs.YteabebmlclgakaaGreat
/- Shelf3: shelf.Add of a new key. -/
namespace Go.Proofs.YteabebmlclgakaaGreat
open Go.RowKit
set_option maxRecDepth 100000
set_option maxHeartbeats 2000000
theorem shadd_yes {B:Nat} {w0:World} {b:Nat} {g:Shf} {W:List BlP} (h:(star (shRs b g)).ok w0) (hI:ShI g W) (x:Blob) (hxd:SlOut (star (shRs b g)).dom B w0 u8L 1 x.data) (hBw:B≤w0.heap.size) (hW:W.length < 10000) (hnx:g.next < 100000) (h6:¬600 < x.data.l.length) (hk:x.key∉W.map (·.key)):Calls Tryz.prog 119 #[ptr b,x.v] w0 fun e w'=>
  ∃g',e= .returned (errno (addE W x.p))∧ShI g' (addW W x.p)∧g'.next≤g.next+1∧Mut (star (shRs b g)) (star (shRs b g')) w0 w':=by
 have hp:=Hp.open h
 have u2:=Tryz.underlying38
 have hmax:x.data.l.length≤9223372036854775807:=by have:=hxd.at_.le;have:=hxd.at_.max;simp only [maxLen] at this;omega
 have hbl:=hI.bytes
 have hbs:=bytes_le W hI.data
 have hlh:=(idx_le hI).1
 have hlm:=(idx_le hI).2
 have hnh:=hI.nh
 have hnm:=hI.nm
 have hnx0:=hI.next
 have hmany:=hI.many
 have hE:addE W x.p=0:=by unfold addE;rw [if_neg (show ¬600 < x.p.bytes.length from h6),if_neg (show ¬x.p.key∈W.map (·.key) from hk)]
 rw [addW,hE,if_pos rfl]
 have hni:x.key∉(idx g.lh x.hint).l:=fun hm=>by
  obtain ⟨z,hz1, -,hz3⟩:=(in_hint hI x.hint x.key).1 hm
  exact hk (List.mem_map.2 ⟨z,hz1,hz3⟩)
 have hnm2:x.key∉(idx g.lm x.key.ses).l:=fun hm=>hk ((in_mine hI x.key).1 hm)
 refine calls_x (args:= [_,_]) tabOk Tryz.func119 Tryz.ntmps119 Tryz.results119 rfl (Nat.le_of_ble_eq_true rfl) ?_
 ((conv=>whnf);repeat' ((first|((with_reducible refine br_id ?_);first|(with_reducible refine br_f ?_)|((with_reducible refine br_dec (fun hx=>?_) (fun hx=>?_))<;>(try (exfalso;first|omega|contradiction))))|((with_reducible refine cn_id ?_);(refine cn rfl ?_))|((with_reducible refine ld_id ?_);(apply ld_hs hp;(focus repeat' constructor);exact rfl))|((with_reducible refine ldn_id ?_);first|(apply lda_hs hp;(focus repeat' constructor);exact rfl)|(apply ldn_hs hp;(focus repeat' constructor);exact rfl;exact rfl))|((with_reducible refine al_id ?_);(refine al_cel hp ?_;clear hp;intro bb w hp))|((with_reducible refine st_id ?_);(apply sta_hs hp;(focus repeat' constructor);exact rfl;exact rfl;clear hp;intro w hp;(try dsimp only [List.set] at hp)))|((with_reducible refine gen_id ?_);first|(apply gen_build;exact rfl;exact rfl)|(apply gen_len;exact rfl;exact rfl;assumption))|((with_reducible refine dr_id ?_);(refine dr_auto tabOk (by kernel_rfl) (by decide+kernel) ?_;(try replace hp:=hp.drew)))|((with_reducible refine cl_id ?_);((refine cl_eq ((shnone_any (cell_of_heap (hp.cel_get (j:=2) rfl) rfl))) rfl rfl ?_;rintro e w ⟨rfl,hcc⟩;replace hp:=hp.call0 hcc;refine ⟨_,rfl,?_⟩))))<;>(conv=>whnf)))
 refine cl_eq (inoteHK (hp.get (j:=3) rfl) x.hint x.key (by have:=hlh x.hint;omega) (by omega)) rfl rfl ?_
 rintro e w (⟨hm, -⟩|⟨-,rfl,s',hs',hmt⟩)
 ·exact absurd hm hni
 replace hp:=hp.via (j:=3) rfl hmt
 clear hmt
 dsimp only [List.set] at hp
 refine ⟨_,rfl,?_⟩
 ((conv=>whnf);repeat' ((first|((with_reducible refine br_id ?_);first|(with_reducible refine br_t ?_)|(with_reducible refine br_not ?_))|((with_reducible refine ld_id ?_);(apply ld_hs hp;(focus repeat' constructor);exact rfl))|((with_reducible refine ldn_id ?_);(apply lda_hs hp;(focus repeat' constructor);exact rfl))|((with_reducible refine dr_id ?_);(refine dr_auto tabOk (by kernel_rfl) (by decide+kernel) ?_;(try replace hp:=hp.drew))))<;>(conv=>whnf)))
 refine cl_eq (inoteUK (hp.get (j:=4) rfl) x.key.ses x.key (by have:=hlm x.key.ses;omega) (by omega)) rfl rfl ?_
 rintro e w (⟨hm, -⟩|⟨-,rfl,t',ht',hmt⟩)
 ·exact absurd hm hnm2
 replace hp:=hp.via (j:=4) rfl hmt
 clear hmt
 dsimp only [List.set] at hp
 refine ⟨_,rfl,?_⟩
 ((conv=>whnf);repeat' ((first|((with_reducible refine br_id ?_);first|(with_reducible refine br_t ?_)|(with_reducible refine br_not ?_))|((with_reducible refine ld_id ?_);(apply ld_hs hp;(focus repeat' constructor);exact rfl))|((with_reducible refine ldn_id ?_);(apply lda_hs hp;(focus repeat' constructor);exact rfl))|((with_reducible refine dr_id ?_);(refine dr_autog tabOk (by kernel_rfl) (by decide+kernel) ?_;(try replace hp:=hp.drew))))<;>(conv=>whnf)))
 refine cl_eq (shown_any x (hxd.keep hp.chg) (by omega)) rfl rfl ?_
 rintro e w ⟨r,hr,rfl,hmd⟩
 replace hp:=hp.add hmd
 replace hmd:=hmd.chg
 refine ⟨_,rfl,?_⟩
 ((conv=>whnf);repeat' ((first|((with_reducible refine ar_id ?_);(refine ar_i64 (by omega) ?_))|((with_reducible refine cn_id ?_);first|(refine cn rfl ?_)|(refine cn ‹_› ?_))|((with_reducible refine ld_id ?_);(apply ld_hs hp;(focus repeat' constructor);exact rfl))|((with_reducible refine st_id ?_);(apply st_hs hp;(focus repeat' constructor);exact rfl;exact rfl;clear hp;intro w hp;(try dsimp only [List.set] at hp)))|((with_reducible refine gen_id ?_);first|((refine gen_build (t:=209) (out:=(Ent.c ⟨{x with data:=r},g.next⟩)) rfl (by kernel_rfl) ?_))|((refine gen_put rfl hp 6 rfl rfl keyK Tryz.underlying176 x.key rfl (⟨{x with data:=r},g.next⟩:Ent) rfl ?_);clear hp;intro w hp;dsimp only [List.set] at hp))|((with_reducible refine dr_id ?_);(refine dr_auto tabOk (by kernel_rfl) (by decide+kernel) ?_;(try replace hp:=hp.drew)))|((with_reducible refine rd_id ?_);(apply rd_len;exact rfl;exact rfl;assumption)))<;>(conv=>whnf)))
 obtain ⟨en,hen⟩:∃en:Ent,en=⟨{x with data:=r},g.next⟩:=⟨_,rfl⟩
 have hmv:(mput g.la x.key en).map entR=g.la.map entR++ [rowR 5 1 u8L r]:=by
  rw [la_new hI hk,List.map_append,hen]
  rfl
 have hp2:=(hp.perm (List.perm_append_singleton _ _).symm).tail.tail
 refine ps_val (v':=errno 0) rfl ⟨{g with lh:=mput g.lh x.hint s',nh:=g.nh+1,lm:=mput g.lm x.key.ses t',nm:=g.nm+1,la:=mput g.la x.key en,next:=g.next+1,bytes:=g.bytes+(x.data.l.length:Int)},rfl,?_,by show g.next+1≤g.next+1;omega,?_⟩
 ·rw [hen]
  exact hI.add hr (by omega) hk hW hnx hs' ht'
 ·show Mut _ (star (cel b _ _::_::_::mapR _ _ _ (mput g.la x.key en)::(mput g.la x.key en).map entR)) _ _
  rw [hmv,hen]
  exact hp2.shut (.refl _)
theorem shadd_any {B:Nat} {w0:World} {b:Nat} {g:Shf} {W:List BlP} (h:(star (shRs b g)).ok w0) (hI:ShI g W) (x:Blob) (hxd:SlOut (star (shRs b g)).dom B w0 u8L 1 x.data) (hBw:B≤w0.heap.size) (hW:W.length < 10000) (hnx:g.next < 100000):Calls Tryz.prog 119 #[ptr b,x.v] w0 fun e w'=>
  ∃g',e= .returned (errno (addE W x.p))∧ShI g' (addW W x.p)∧g'.next≤g.next+1∧Mut (star (shRs b g)) (star (shRs b g')) w0 w':=by
 by_cases h0:addE W x.p=0
 ·have h6:¬600 < x.data.l.length:=fun hh=>by
   have:addE W x.p=3:=if_pos hh
   omega
  have hk:x.key∉W.map (·.key):=fun hh=>by
   have:addE W x.p=6:=by unfold addE;rw [if_neg (show ¬600 < x.p.bytes.length from h6),if_pos (show x.p.key∈W.map (·.key) from hh)]
   omega
  exact shadd_yes h hI x hxd hBw hW hnx h6 hk
 ·exact shadd_no h hI x hxd hBw hW hnx h0
end Go.Proofs.YteabebmlclgakaaGreat
/- RightP: which state may be, piece by piece. No program in sight. -/
namespace Go.Proofs.YteabebmlclgakaaGreat
open Go.RowKit
set_option maxRecDepth 100000
set_option maxHeartbeats 2000000
def soundC (c:Cfg):Bool:=decide ((1≤c.dep∧c.dep≤16)∧(1≤c.stp∧c.stp≤1000)∧(1≤c.kep∧c.kep≤65535)∧(1≤c.ses∧c.ses≤64)∧(1≤c.cap∧c.cap≤65536)∧(1≤c.com∧c.com≤65536))
def haltE (e:Int):Bool:=decide (e=0∨e=19∨e=20∨e=16)
def ascAt (x:Sess) (l:List Sess):Nat→Bool
 |0=>true
 |k+1=>match l[k]? with
  |some y=>decide (y.id.toNat < x.id.toNat)
  |none=>true
def sesAt (next:UInt32) (l:List Sess) (i:Nat):Bool:=match l[i]? with
 |some x=>decide (x.id.toNat < next.toNat) && (ascAt x l i && decide (1≤x.quota.toNat∧x.quota.toNat≤64∧x.used.toNat≤x.quota.toNat))
 |none=>true
def sesS (next:UInt32) (room:Int) (l:List Sess):Bool:=(List.range l.length).all (sesAt next l) && decide ((l.length:Int)≤room)
def useOk (seq:UInt32):Option Sess→Bool
 |some y=>decide (seq.toNat < y.used.toNat)
 |none=>false
def blobAt (ses:List Sess) (l:List BlP) (i:Nat):Bool:=match l[i]? with
 |some x=>useOk x.key.seq (byId ses x.key.ses) && decide (addE (l.take i) x=0)
 |none=>true
def blobS (ses:List Sess) (l:List BlP):Bool:=(List.range l.length).all (blobAt ses l)
def jobAt (ht:UInt32) (l:List Job) (i:Nat):Bool:=match l[i]? with
 |some x=>rightJ x && decide ((x.height.toNat≤ht.toNat∧x.mined.toNat≤ht.toNat)∧x.key∉(l.take i).map (·.key))
 |none=>true
def jobS (ht:UInt32) (l:List Job):Bool:=(List.range l.length).all (jobAt ht l)
def rightS (x:Sta):Bool:=soundC x.cfg && (haltE x.halt && (chS x.cfg.dep x.ht x.win.l && (sesS x.next x.cfg.ses x.ses.l && (blobS x.ses.l (x.blobs.l.map Blob.p) && jobS x.ht x.jobs.l))))
theorem allR_no {n:Nat} {f:Nat→Bool} {i:Nat} (hi:i < n) (h:f i=false):(List.range n).all f=false:=List.all_eq_false.2 ⟨i,List.mem_range.2 hi,by rw [h];simp⟩
theorem allR_yes {n:Nat} {f:Nat→Bool} (h:∀k,k < n→f k=true):(List.range n).all f=true:=List.all_eq_true.2 fun k hk=>h k (List.mem_range.1 hk)
theorem allR_at {n:Nat} {f:Nat→Bool} (h:(List.range n).all f=true) {k:Nat} (hk:k < n):f k=true:=List.all_eq_true.1 h k (List.mem_range.2 hk)
theorem all_step {f:Nat→Bool} {i:Nat} (h:∀k,k < i→f k=true) (hi:f i=true):∀k,k < i+1→f k=true:=fun k hk=>by
 rcases Nat.lt_or_ge k i with h1|h1
 ·exact h k h1
 ·obtain rfl:k=i:=by omega
  exact hi
def tblOf (l:List Sess):List (UInt32×Sess):=l.map fun x=>(x.id,x)
theorem tblOf_lookup (id:UInt32):∀l:List Sess,(tblOf l).lookup id=byId l id
 | []=>rfl
 |x::l=>by
  have ih:=tblOf_lookup id l
  unfold tblOf byId at ih ⊢
  rw [List.map_cons,List.lookup_cons,List.find?_cons]
  by_cases h:id=x.id
  ·subst h
   simp
  ·have h1:(id==x.id)=false:=by simpa using h
   have h2:decide (x.id=id)=false:=by simpa using fun e:x.id=id=>h e.symm
   rw [h1,h2]
   exact ih
theorem tblOf_put {l:List Sess} {x:Sess} (h:byId l x.id=none):mput (tblOf l) x.id x=tblOf (l++ [x]):=by
 have hn:x.id∉(tblOf l).map (·.1):=by
  intro hm
  obtain ⟨p,hp,hk⟩:=List.mem_map.1 hm
  obtain ⟨y,hy,rfl⟩:=List.mem_map.1 hp
  exact byId_none h y hy hk
 unfold mput
 rw [if_neg hn]
 simp [tblOf]
theorem asc_all {next:UInt32} {l:List Sess} {n:Nat} (h:∀k,k < n→sesAt next l k=true):∀(i j:Nat) x y,i < j→j < n→l[i]? =some x→l[j]? =some y→x.id.toNat < y.id.toNat:=fun i j=>by
 induction j with
 |zero=>intro x y hij;omega
 |succ j ih=>
  intro x y hij hjn hx hy
  have h1:=h (j+1) hjn
  unfold sesAt at h1
  rw [hy] at h1
  simp only [Bool.and_eq_true] at h1
  have h2:=h1.2.1
  unfold ascAt at h2
  dsimp only at h2
  have hlt:j < l.length:=by have:=(List.getElem?_eq_some_iff.1 hy).1;omega
  have hz:=List.getElem?_eq_getElem hlt
  generalize l[j]=z at hz
  rw [hz] at h2
  simp only [decide_eq_true_eq] at h2
  rcases Nat.lt_or_ge i j with h3|h3
  ·have:=ih x z h3 (by omega) hx hz
   omega
  ·obtain rfl:i=j:=by omega
   rw [hz] at hx
   cases hx
   exact h2
theorem asc_none {next:UInt32} {l:List Sess} {i:Nat} {x:Sess} (h:∀k,k < i→sesAt next l k=true) (hx:l[i]? =some x) (ha:ascAt x l i=true):byId (l.take i) x.id=none:=by
 unfold byId
 rw [List.find?_eq_none]
 intro y hy
 obtain ⟨k,hk⟩:=List.getElem?_of_mem hy
 have hki:k < i:=by
  have:=(List.getElem?_eq_some_iff.1 hk).1
  rw [List.length_take] at this
  omega
 rw [List.getElem?_take_of_lt hki] at hk
 obtain ⟨j,rfl⟩:∃j,i=j+1:=⟨i - 1,by omega⟩
 unfold ascAt at ha
 dsimp only at ha
 have hlt:j < l.length:=by have:=(List.getElem?_eq_some_iff.1 hx).1;omega
 have hz:=List.getElem?_eq_getElem hlt
 generalize l[j]=z at hz
 rw [hz] at ha
 simp only [decide_eq_true_eq] at ha
 have:y.id.toNat≤z.id.toNat:=by
  rcases Nat.lt_or_ge k j with h3|h3
  ·exact Nat.le_of_lt (asc_all h k j y z h3 (by omega) hk hz)
  ·obtain rfl:k=j:=by omega
   rw [hz] at hk
   cases hk
   exact Nat.le_refl _
 have hne:y.id≠x.id:=fun e=>by rw [e] at this;omega
 simpa using hne
end Go.Proofs.YteabebmlclgakaaGreat
/- PlanQ: a plan as the document makes it, and what it costs. No program in sight. -/
namespace Go.Proofs.YteabebmlclgakaaGreat
open Go.RowKit
set_option maxRecDepth 100000
set_option maxHeartbeats 2000000
def quietP (ht:Nat) (l:List StpP):Nat:=l.foldl (fun h s=>max h s.sub.height.toNat) ht
theorem foldl_last:∀{l:List StpP} {h:Nat},(∀s∈l,h≤s.sub.height.toNat)→l.Pairwise ltP→l≠ []→∃s,l.getLast? =some s∧quietP h l=s.sub.height.toNat
 | [],_,_,_,hn=>absurd rfl hn
 | [x],h,hg,_,_=>⟨x,rfl,by
  have:=hg x (List.mem_cons_self ..)
  show max h x.sub.height.toNat=_
  omega⟩
 |x::y::l,h,hg,hp,_=>by
  obtain ⟨p1,p2⟩:=List.pairwise_cons.1 hp
  have hx:=hg x (List.mem_cons_self ..)
  obtain ⟨s,h1,h2⟩:=foldl_last (l:=y::l) (h:=max h x.sub.height.toNat) (fun s hs=>by
   have:=p1 s hs
   unfold ltP at this
   omega) p2 (by simp)
  exact ⟨s,by rw [List.getLast?_cons_cons];exact h1,h2⟩
theorem quiet_nil (h:Nat):quietP h []=h:=rfl
theorem planA_sorted (far:Int) (ht:UInt32) (l:List JobP):(planA far ht l).Pairwise ltP:=by
 have:=ht.toNat_lt
 exact runA_sorted (placed_sorted l) (by omega)
theorem planA_gt {far:Int} {ht:UInt32} {l:List JobP} {s:StpP} (hs:s∈planA far ht l):ht.toNat < s.sub.height.toNat:=by
 have:=ht.toNat_lt
 have:=runA_at hs (by omega)
 omega
theorem plan_quiet {far:Int} {ht:UInt32} {l:List JobP} {q:Nat} (hq:quietP ht.toNat (planA far ht l)=q):
  ht.toNat≤q∧(∀n,q≤ht.toNat+n→planB far ht l n=planA far ht l)∧(q=ht.toNat→planA far ht l= [])∧(ht.toNat < q→∃s,(planA far ht l).getLast? =some s∧s.sub.height.toNat=q):=by
 by_cases h0:planA far ht l= []
 ·rw [h0] at hq ⊢
  rw [quiet_nil] at hq
  refine ⟨by omega,fun n _=>?_,fun _=>rfl,fun h=>by omega⟩
  obtain ⟨r,hr,_⟩:=planA_cut far ht l n
  rw [h0] at hr
  exact (List.append_eq_nil_iff.1 hr.symm).1
 ·obtain ⟨s,h1,h2⟩:=foldl_last (fun s hs=>Nat.le_of_lt (planA_gt hs)) (planA_sorted far ht l) h0
  rw [hq] at h2
  have hm:s∈planA far ht l:=List.mem_of_getLast? h1
  have hg:=planA_gt hm
  refine ⟨by omega,fun n hn=>?_,fun h=>by omega,fun _=>⟨s,h1,h2.symm⟩⟩
  obtain ⟨r,hr,_,hr2⟩:=planA_cut far ht l n
  have hrn:r= []:=by
   rcases Nat.eq_zero_or_pos r.length with h|h
   ·exact List.eq_nil_of_length_eq_zero h
   ·obtain ⟨A,z,rfl⟩:=cut_last h
    have h3:=hr2 z (by simp)
    have h4:(planA far ht l).getLast? =some z:=by rw [hr,←List.append_assoc,List.getLast?_append];simp
    rw [h1] at h4
    have h5:=Option.some.inj h4
    rw [←h5] at h3
    omega
  rw [hrn,List.append_nil] at hr
  exact hr.symm
theorem planB_pre (far:Int) (ht:UInt32) (l:List JobP) {m n:Nat} (h:m≤n):∃r,planB far ht l n=planB far ht l m++r:=by
 unfold planB
 refine ⟨runA far (min n (4294967295 - ht.toNat) - min m (4294967295 - ht.toNat)) (ht.toNat+1+min m (4294967295 - ht.toNat)) (endA far (min m (4294967295 - ht.toNat)) (ht.toNat+1) (placed l)),?_⟩
 rw [←runA_add,show min m (4294967295 - ht.toNat)+(min n (4294967295 - ht.toNat) - min m (4294967295 - ht.toNat))=min n (4294967295 - ht.toNat) by omega]
end Go.Proofs.YteabebmlclgakaaGreat
