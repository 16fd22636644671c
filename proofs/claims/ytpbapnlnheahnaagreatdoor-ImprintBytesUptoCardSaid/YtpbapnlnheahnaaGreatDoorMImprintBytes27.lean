/- MImprintBytes27: parts of the proof of ImprintBytes: Shelf3, RightP, Book1, Book2. No condition of their own. -/
import Derived.Test.YtpbapnlnheahnaaGreatDoorMImprintBytes26
import Derived.Test.YtpbapnlnheahnaaGreatDoorMImprintBytes24
import Derived.Test.YtpbapnlnheahnaaGreatDoorMImprintBytes25
import Derived.Test.YtpbapnlnheahnaaGreatDoorMImprintBytes21
import Derived.Test.YtpbapnlnheahnaaGreatDoorMImprintBytes15
set_option linter.unusedSimpArgs false
set_option linter.unusedVariables false
namespace Go.Proofs.YtpbapnlnheahnaaGreatDoor
open Go.RowKit
set_option maxRecDepth 100000
set_option maxHeartbeats 2000000
theorem shadd_yes {B:Nat} {w0:World} {b:Nat} {g:Shf} {W:List BlP} (h:(star (shRs b g)).ok w0) (hI:ShI g W) (x:Blob) (hxd:SlOut (star (shRs b g)).dom B w0 u8L 1 x.data) (hBw:B≤w0.heap.size) (hW:W.length < 10000) (hnx:g.next < 100000) (h6:¬600 < x.data.l.length) (hk:x.key∉W.map (·.key)):Calls Tryz.prog 142 #[ptr b,x.v] w0 fun e w'=>
  ∃g',e= .returned (errno (addE W x.p))∧ShI g' (addW W x.p)∧g'.next≤g.next+1∧Mut (star (shRs b g)) (star (shRs b g')) w0 w':=by
 have hp:=Hp.open h
 have u2:=Tryz.underlying34
 have hmax:x.data.l.length≤9223372036854775807:=by have:=hxd.at_.le;have:=hxd.at_.max;simp only [maxLen] at this;omega
 have hbl:=hI.bytes
 have hbs:=bytes_le W hI.data
 have hlh:=(idx_le hI).1
 have hlm:=(idx_le hI).2
 have hnh:=hI.nh
 have hnm:=hI.nm
 have hnx0:=hI.next
 have hmany:=hI.many
 have hE:addE W x.p=0:=by unfold addE;rw [if_neg (show ¬600 < x.p.bytes.length from h6),if_neg (show ¬x.p.key∈W.map (·.key) from hk)]
 rw [addW,hE,if_pos rfl]
 have hni:x.key∉(idx g.lh x.hint).l:=fun hm=>by
  obtain ⟨z,hz1, -,hz3⟩:=(in_hint hI x.hint x.key).1 hm
  exact hk (List.mem_map.2 ⟨z,hz1,hz3⟩)
 have hnm2:x.key∉(idx g.lm x.key.ses).l:=fun hm=>hk ((in_mine hI x.key).1 hm)
 refine calls_x (args:= [_,_]) tabOk Tryz.func142 Tryz.ntmps142 Tryz.results142 rfl (Nat.le_of_ble_eq_true rfl) ?_
 ((conv=>whnf);repeat' ((first|((with_reducible apply br_id);first|with_reducible refine br_f ?_|((with_reducible refine br_dec (fun hx=>?_) (fun hx=>?_))<;>(try (exfalso;first|omega|contradiction))))|((with_reducible apply cn_id);refine cn rfl ?_)|((with_reducible apply ld_id);apply ld_hs hp;(focus repeat' constructor);exact rfl)|((with_reducible apply ldn_id);first|(apply lda_hs hp;(focus repeat' constructor);exact rfl)|(apply ldn_hs hp;(focus repeat' constructor);exact rfl;exact rfl))|((with_reducible apply al_id);refine al_cel hp ?_;clear hp;intro bb w hp)|((with_reducible apply st_id);apply sta_hs hp;(focus repeat' constructor);exact rfl;exact rfl;clear hp;intro w hp;(try dsimp only [List.set] at hp))|((with_reducible apply gen_id);first|(apply gen_build;exact rfl;exact rfl)|(apply gen_len;exact rfl;exact rfl;assumption))|((with_reducible apply dr_id);refine dr_auto tabOk (by kernel_rfl) (by decide+kernel) ?_;(try replace hp:=hp.drew))|((with_reducible apply cl_id);(refine cl_eq ((shnone_any (cell_of_heap (hp.cel_get (j:=2) rfl) rfl))) rfl rfl ?_;rintro e w ⟨rfl,hcc⟩;replace hp:=hp.call0 hcc;refine ⟨_,rfl,?_⟩)))<;>(conv=>whnf)))
 refine cl_eq (inoteHK (hp.get (j:=3) rfl) x.hint x.key (by have:=hlh x.hint;omega) (by omega)) rfl rfl ?_
 rintro e w (⟨hm, -⟩|⟨-,rfl,s',hs',hmt⟩)
 ·exact absurd hm hni
 replace hp:=hp.via (j:=3) rfl hmt
 clear hmt
 dsimp only [List.set] at hp
 refine ⟨_,rfl,?_⟩
 ((conv=>whnf);repeat' ((first|((with_reducible apply br_id);first|with_reducible refine br_t ?_|with_reducible refine br_not ?_)|((with_reducible apply ld_id);apply ld_hs hp;(focus repeat' constructor);exact rfl)|((with_reducible apply ldn_id);apply lda_hs hp;(focus repeat' constructor);exact rfl)|((with_reducible apply dr_id);refine dr_auto tabOk (by kernel_rfl) (by decide+kernel) ?_;(try replace hp:=hp.drew)))<;>(conv=>whnf)))
 refine cl_eq (inoteUK (hp.get (j:=4) rfl) x.key.ses x.key (by have:=hlm x.key.ses;omega) (by omega)) rfl rfl ?_
 rintro e w (⟨hm, -⟩|⟨-,rfl,t',ht',hmt⟩)
 ·exact absurd hm hnm2
 replace hp:=hp.via (j:=4) rfl hmt
 clear hmt
 dsimp only [List.set] at hp
 refine ⟨_,rfl,?_⟩
 ((conv=>whnf);repeat' ((first|((with_reducible apply br_id);first|with_reducible refine br_t ?_|with_reducible refine br_not ?_)|((with_reducible apply ld_id);apply ld_hs hp;(focus repeat' constructor);exact rfl)|((with_reducible apply ldn_id);apply lda_hs hp;(focus repeat' constructor);exact rfl)|((with_reducible apply dr_id);refine dr_autog tabOk (by kernel_rfl) (by decide+kernel) ?_;(try replace hp:=hp.drew)))<;>(conv=>whnf)))
 refine cl_eq (shown_any x (hxd.keep hp.chg) (by omega)) rfl rfl ?_
 rintro e w ⟨r,hr,rfl,hmd⟩
 replace hp:=hp.add hmd
 replace hmd:=hmd.chg
 refine ⟨_,rfl,?_⟩
 ((conv=>whnf);repeat' ((first|((with_reducible apply ar_id);refine ar_i64 (by omega) ?_)|((with_reducible apply cn_id);first|refine cn rfl ?_|refine cn ‹_› ?_)|((with_reducible apply ld_id);apply ld_hs hp;(focus repeat' constructor);exact rfl)|((with_reducible apply st_id);apply st_hs hp;(focus repeat' constructor);exact rfl;exact rfl;clear hp;intro w hp;(try dsimp only [List.set] at hp))|((with_reducible apply gen_id);first|(refine gen_build (t:=266) (out:=(Ent.c ⟨{x with data:=r},g.next⟩)) rfl (by kernel_rfl) ?_)|((refine gen_put rfl hp 6 rfl rfl keyK Tryz.underlying214 x.key rfl (⟨{x with data:=r},g.next⟩:Ent) rfl ?_);clear hp;intro w hp;dsimp only [List.set] at hp))|((with_reducible apply dr_id);refine dr_auto tabOk (by kernel_rfl) (by decide+kernel) ?_;(try replace hp:=hp.drew))|((with_reducible apply rd_id);apply rd_len;exact rfl;exact rfl;assumption))<;>(conv=>whnf)))
 obtain ⟨en,hen⟩:∃en:Ent,en=⟨{x with data:=r},g.next⟩:=⟨_,rfl⟩
 have hmv:(mput g.la x.key en).map entR=g.la.map entR++ [rowR 5 1 u8L r]:=by
  rw [la_new hI hk,List.map_append,hen]
  rfl
 have hp2:=(hp.perm (List.perm_append_singleton _ _).symm).tail.tail
 refine ps_val (v':=errno 0) rfl ⟨{g with lh:=mput g.lh x.hint s',nh:=g.nh+1,lm:=mput g.lm x.key.ses t',nm:=g.nm+1,la:=mput g.la x.key en,next:=g.next+1,bytes:=g.bytes+(x.data.l.length:Int)},rfl,?_,by show g.next+1≤g.next+1;omega,?_⟩
 ·rw [hen]
  exact hI.add hr (by omega) hk hW hnx hs' ht'
 ·show Mut _ (star (cel b _ _::_::_::mapR _ _ _ (mput g.la x.key en)::(mput g.la x.key en).map entR)) _ _
  rw [hmv,hen]
  exact hp2.shut (.refl _)
theorem shadd_any {B:Nat} {w0:World} {b:Nat} {g:Shf} {W:List BlP} (h:(star (shRs b g)).ok w0) (hI:ShI g W) (x:Blob) (hxd:SlOut (star (shRs b g)).dom B w0 u8L 1 x.data) (hBw:B≤w0.heap.size) (hW:W.length < 10000) (hnx:g.next < 100000):Calls Tryz.prog 142 #[ptr b,x.v] w0 fun e w'=>
  ∃g',e= .returned (errno (addE W x.p))∧ShI g' (addW W x.p)∧g'.next≤g.next+1∧Mut (star (shRs b g)) (star (shRs b g')) w0 w':=by
 by_cases h0:addE W x.p=0
 ·have h6:¬600 < x.data.l.length:=fun hh=>by
   have:addE W x.p=3:=if_pos hh
   omega
  have hk:x.key∉W.map (·.key):=fun hh=>by
   have:addE W x.p=6:=by unfold addE;rw [if_neg (show ¬600 < x.p.bytes.length from h6),if_pos (show x.p.key∈W.map (·.key) from hh)]
   omega
  exact shadd_yes h hI x hxd hBw hW hnx h6 hk
 ·exact shadd_no h hI x hxd hBw hW hnx h0
def soundC (c:Cfg):Bool:=decide ((1≤c.dep∧c.dep≤16)∧(1≤c.stp∧c.stp≤1000)∧(1≤c.kep∧c.kep≤65535)∧(1≤c.ses∧c.ses≤64)∧(1≤c.cap∧c.cap≤65536)∧(1≤c.com∧c.com≤65536))
def haltE (e:Int):Bool:=decide (e=0∨e=19∨e=20∨e=16)
def ascAt (x:Sess) (l:List Sess):Nat→Bool
 |0=>true
 |k+1=>match l[k]? with
  |some y=>decide (y.id.toNat < x.id.toNat)
  |none=>true
def sesAt (next:UInt32) (l:List Sess) (i:Nat):Bool:=match l[i]? with
 |some x=>decide (x.id.toNat < next.toNat) && (ascAt x l i && decide (1≤x.quota.toNat∧x.quota.toNat≤64∧x.used.toNat≤x.quota.toNat))
 |none=>true
def sesS (next:UInt32) (room:Int) (l:List Sess):Bool:=(List.range l.length).all (sesAt next l) && decide ((l.length:Int)≤room)
def useOk (seq:UInt32):Option Sess→Bool
 |some y=>decide (seq.toNat < y.used.toNat)
 |none=>false
def blobAt (ses:List Sess) (l:List BlP) (i:Nat):Bool:=match l[i]? with
 |some x=>useOk x.key.seq (byId ses x.key.ses) && decide (addE (l.take i) x=0)
 |none=>true
def blobS (ses:List Sess) (l:List BlP):Bool:=(List.range l.length).all (blobAt ses l)
def jobAt (ht:UInt32) (l:List Job) (i:Nat):Bool:=match l[i]? with
 |some x=>rightJ x && decide ((x.height.toNat≤ht.toNat∧x.mined.toNat≤ht.toNat)∧x.key∉(l.take i).map (·.key))
 |none=>true
def jobS (ht:UInt32) (l:List Job):Bool:=(List.range l.length).all (jobAt ht l)
def rightS (x:Sta):Bool:=soundC x.cfg && (haltE x.halt && (chS x.cfg.dep x.ht x.win.l && (sesS x.next x.cfg.ses x.ses.l && (blobS x.ses.l (x.blobs.l.map Blob.p) && jobS x.ht x.jobs.l))))
theorem allR_no {n:Nat} {f:Nat→Bool} {i:Nat} (hi:i < n) (h:f i=false):(List.range n).all f=false:=List.all_eq_false.2 ⟨i,List.mem_range.2 hi,by rw [h];simp⟩
theorem allR_yes {n:Nat} {f:Nat→Bool} (h:∀k,k < n→f k=true):(List.range n).all f=true:=List.all_eq_true.2 fun k hk=>h k (List.mem_range.1 hk)
theorem allR_at {n:Nat} {f:Nat→Bool} (h:(List.range n).all f=true) {k:Nat} (hk:k < n):f k=true:=List.all_eq_true.1 h k (List.mem_range.2 hk)
theorem all_step {f:Nat→Bool} {i:Nat} (h:∀k,k < i→f k=true) (hi:f i=true):∀k,k < i+1→f k=true:=fun k hk=>by
 rcases Nat.lt_or_ge k i with h1|h1
 ·exact h k h1
 ·obtain rfl:k=i:=by omega
  exact hi
def tblOf (l:List Sess):List (UInt32×Sess):=l.map fun x=>(x.id,x)
theorem tblOf_lookup (id:UInt32):∀l:List Sess,(tblOf l).lookup id=byId l id
 | []=>rfl
 |x::l=>by
  have ih:=tblOf_lookup id l
  unfold tblOf byId at ih ⊢
  rw [List.map_cons,List.lookup_cons,List.find?_cons]
  by_cases h:id=x.id
  ·subst h
   simp
  ·have h1:(id==x.id)=false:=by simpa using h
   have h2:decide (x.id=id)=false:=by simpa using fun e:x.id=id=>h e.symm
   rw [h1,h2]
   exact ih
theorem tblOf_put {l:List Sess} {x:Sess} (h:byId l x.id=none):mput (tblOf l) x.id x=tblOf (l++ [x]):=by
 have hn:x.id∉(tblOf l).map (·.1):=by
  intro hm
  obtain ⟨p,hp,hk⟩:=List.mem_map.1 hm
  obtain ⟨y,hy,rfl⟩:=List.mem_map.1 hp
  exact byId_none h y hy hk
 unfold mput
 rw [if_neg hn]
 simp [tblOf]
theorem asc_all {next:UInt32} {l:List Sess} {n:Nat} (h:∀k,k < n→sesAt next l k=true):∀(i j:Nat) x y,i < j→j < n→l[i]? =some x→l[j]? =some y→x.id.toNat < y.id.toNat:=fun i j=>by
 induction j with
 |zero=>intro x y hij;omega
 |succ j ih=>
  intro x y hij hjn hx hy
  have h1:=h (j+1) hjn
  unfold sesAt at h1
  rw [hy] at h1
  simp only [Bool.and_eq_true] at h1
  have h2:=h1.2.1
  unfold ascAt at h2
  dsimp only at h2
  have hlt:j < l.length:=by have:=(List.getElem?_eq_some_iff.1 hy).1;omega
  have hz:=List.getElem?_eq_getElem hlt
  generalize l[j]=z at hz
  rw [hz] at h2
  simp only [decide_eq_true_eq] at h2
  rcases Nat.lt_or_ge i j with h3|h3
  ·have:=ih x z h3 (by omega) hx hz
   omega
  ·obtain rfl:i=j:=by omega
   rw [hz] at hx
   cases hx
   exact h2
theorem asc_none {next:UInt32} {l:List Sess} {i:Nat} {x:Sess} (h:∀k,k < i→sesAt next l k=true) (hx:l[i]? =some x) (ha:ascAt x l i=true):byId (l.take i) x.id=none:=by
 unfold byId
 rw [List.find?_eq_none]
 intro y hy
 obtain ⟨k,hk⟩:=List.getElem?_of_mem hy
 have hki:k < i:=by
  have:=(List.getElem?_eq_some_iff.1 hk).1
  rw [List.length_take] at this
  omega
 rw [List.getElem?_take_of_lt hki] at hk
 obtain ⟨j,rfl⟩:∃j,i=j+1:=⟨i - 1,by omega⟩
 unfold ascAt at ha
 dsimp only at ha
 have hlt:j < l.length:=by have:=(List.getElem?_eq_some_iff.1 hx).1;omega
 have hz:=List.getElem?_eq_getElem hlt
 generalize l[j]=z at hz
 rw [hz] at ha
 simp only [decide_eq_true_eq] at ha
 have:y.id.toNat≤z.id.toNat:=by
  rcases Nat.lt_or_ge k j with h3|h3
  ·exact Nat.le_of_lt (asc_all h k j y z h3 (by omega) hk hz)
  ·obtain rfl:k=j:=by omega
   rw [hz] at hk
   cases hk
   exact Nat.le_refl _
 have hne:y.id≠x.id:=fun e=>by rw [e] at this;omega
 simpa using hne
set_option maxHeartbeats 4000000
theorem bin_any (w0:World) (n m:Int):Calls Tryz.prog 126 #[i64 n,i64 m] w0 fun e w'=>e= .returned (.bool (decide (1≤n∧n≤m)))∧Chg N0 w0 w':=by
 have hp:=Hp.start (S:=N0) w0
 by_cases h1:1≤n
 ·refine calls_x (args:= [_,_]) tabOk Tryz.func126 Tryz.ntmps126 Tryz.results126 rfl (Nat.le_of_ble_eq_true rfl) ?_
  ((conv=>whnf);repeat' (((with_reducible apply br_id);first|with_reducible refine br_t ?_|((with_reducible refine br_dec (fun hx=>?_) (fun hx=>?_))<;>(try (exfalso;first|omega|contradiction))))<;>(conv=>whnf)))
  all_goals exact ps_val (v':= .bool (decide (n≤m))) rfl ⟨congrArg (fun b=>Ending.returned (.bool b)) (decide_eq_decide.2 (by omega)),hp.chg⟩
 ·refine calls_x (args:= [_,_]) tabOk Tryz.func126 Tryz.ntmps126 Tryz.results126 rfl (Nat.le_of_ble_eq_true rfl) ?_
  ((conv=>whnf);repeat' (((with_reducible apply br_id);first|with_reducible refine br_f ?_|((with_reducible refine br_dec (fun hx=>?_) (fun hx=>?_))<;>(try (exfalso;first|omega|contradiction))))<;>(conv=>whnf)))
  all_goals exact ps_val (v':= .bool false) rfl ⟨congrArg (fun b=>Ending.returned (.bool b)) (decide_eq_false (by omega)).symm,hp.chg⟩
theorem halts_any (w0:World) (e:Int):Calls Tryz.prog 98 #[i64 e] w0 fun r w'=>r= .returned (.bool (haltE e))∧Chg N0 w0 w':=by
 have hp:=Hp.start (S:=N0) w0
 refine calls_x (args:= [_]) tabOk Tryz.func98 Tryz.ntmps98 Tryz.results98 rfl (Nat.le_of_ble_eq_true rfl) ?_
 ((conv=>whnf);repeat' (((with_reducible apply br_id);first|with_reducible refine br_t ?_|((with_reducible refine br_eq (fun hx=>?_) (fun hx=>?_))<;>(try (exfalso;first|omega|contradiction))))<;>(conv=>whnf)))
 all_goals first
  |exact ps_val (v':= .bool true) rfl ⟨by rw [show haltE e=true from decide_eq_true (by omega)],hp.chg⟩
  |exact ps_val (v':= .bool false) rfl ⟨by rw [show haltE e=false from decide_eq_false (by omega)],hp.chg⟩
theorem sound_any (w0:World) (c:Cfg):Calls Tryz.prog 97 #[c.v] w0 fun e w'=>e= .returned (.bool (soundC c))∧Chg N0 w0 w':=by
 have hp:=Hp.start (S:=N0) w0
 obtain ⟨q1,h1⟩:∃q,decide (1≤c.dep∧c.dep≤16)=q:=⟨_,rfl⟩
 obtain ⟨q2,h2⟩:∃q,decide (1≤c.stp∧c.stp≤1000)=q:=⟨_,rfl⟩
 obtain ⟨q3,h3⟩:∃q,decide (1≤c.kep∧c.kep≤65535)=q:=⟨_,rfl⟩
 obtain ⟨q4,h4⟩:∃q,decide (1≤c.ses∧c.ses≤64)=q:=⟨_,rfl⟩
 obtain ⟨q5,h5⟩:∃q,decide (1≤c.cap∧c.cap≤65536)=q:=⟨_,rfl⟩
 obtain ⟨q6,h6⟩:∃q,decide (1≤c.com∧c.com≤65536)=q:=⟨_,rfl⟩
 have hS:soundC c=(q1 && (q2 && (q3 && (q4 && (q5 && q6))))):=by
  unfold soundC
  rw [←h1,←h2,←h3,←h4,←h5,←h6,Bool.eq_iff_iff]
  simp only [decide_eq_true_eq,Bool.and_eq_true]
 have c1:=fun w=>bin_any w c.dep 16
 have c2:=fun w=>bin_any w c.stp 1000
 have c3:=fun w=>bin_any w c.kep 65535
 have c4:=fun w=>bin_any w c.ses 64
 have c5:=fun w=>bin_any w c.cap 65536
 have c6:=fun w=>bin_any w c.com 65536
 rw [h1] at c1
 rw [h2] at c2
 rw [h3] at c3
 rw [h4] at c4
 rw [h5] at c5
 rw [h6] at c6
 rw [hS]
 clear hS h1 h2 h3 h4 h5 h6
 refine calls_x (args:= [_]) tabOk Tryz.func97 Tryz.ntmps97 Tryz.results97 rfl (Nat.le_of_ble_eq_true rfl) ?_
 ((conv=>whnf);repeat' ((first|((with_reducible apply br_id);first|with_reducible refine br_t ?_|with_reducible refine br_f ?_|((with_reducible refine br_s (fun hx=>?_) (fun hx=>?_))<;>(try (exfalso;first|omega|contradiction))))|((with_reducible apply ld_id);apply ld_hs hp;(focus repeat' constructor);exact rfl)|((with_reducible apply al_id);refine al_cel hp ?_;clear hp;intro bb w hp)|((with_reducible apply cl_id);first|((refine cl_eq ((c1 _)) rfl rfl ?_;rintro e w ⟨rfl,hcc⟩;replace hp:=hp.call0 hcc;refine ⟨_,rfl,?_⟩))|((refine cl_eq ((c2 _)) rfl rfl ?_;rintro e w ⟨rfl,hcc⟩;replace hp:=hp.call0 hcc;refine ⟨_,rfl,?_⟩))|((refine cl_eq ((c3 _)) rfl rfl ?_;rintro e w ⟨rfl,hcc⟩;replace hp:=hp.call0 hcc;refine ⟨_,rfl,?_⟩))|((refine cl_eq ((c4 _)) rfl rfl ?_;rintro e w ⟨rfl,hcc⟩;replace hp:=hp.call0 hcc;refine ⟨_,rfl,?_⟩))|((refine cl_eq ((c5 _)) rfl rfl ?_;rintro e w ⟨rfl,hcc⟩;replace hp:=hp.call0 hcc;refine ⟨_,rfl,?_⟩))|((refine cl_eq ((c6 _)) rfl rfl ?_;rintro e w ⟨rfl,hcc⟩;replace hp:=hp.call0 hcc;refine ⟨_,rfl,?_⟩))))<;>(conv=>whnf)))
 all_goals first
  |exact ps_val (v':= .bool q6) rfl ⟨by simp_all,hp.chg⟩
  |exact ps_val (v':= .bool false) rfl ⟨by simp_all,hp.chg⟩
structure Bk where
 cfg:Cfg
 halt:Int
 next:UInt32
 bc:Nat
 bn:Nat
 bs:Nat
 bh:Nat
 bj:Nat
abbrev Bk.c (x:Bk):List Value:=(i64 x.cfg.dep::i64 x.cfg.stp::i64 x.cfg.kep::i64 x.cfg.ses::i64 x.cfg.cap::i64 x.cfg.com::i64 x.halt::u32 x.next::ptr x.bc::ptr x.bn::ptr x.bs::ptr x.bh::ptr x.bj:: [])
abbrev bkR (b:Nat) (x:Bk):Res:=cel b 171 x.c.toArray
theorem out_lt {α:Type} {D:Nat→Prop} {B:Nat} {w:World} {enc:α→List Value} {sz:Nat} {s:Sl α} (h:SlAt B w enc sz s) (hB:∀k,D k→B≤k):SlOut D B w enc sz s:=
 ⟨h,fun hne b o hA hd=>by
  obtain ⟨b',o',h1,h2,_⟩:=h.row hne
  rw [hA] at h1
  cases h1
  have:=hB b hd
  omega⟩
abbrev cliRs (bk:Nat) (X:Bk) (m:Nat) (room:Int) (tl:List (UInt32×Sess)) (g:Shf):List Res:= [bkR bk X,tabR X.bs m room tl,star (shRs X.bh g)]
theorem grant_is {l:List Sess} {room:Int} {x:Sess} {i:Nat} (hl:(l.take i).length=i) (hb:byId (l.take i) x.id=none):grantE (tblOf (l.take i)) room x=if ¬(1≤x.quota.toNat∧x.quota.toNat≤64∧x.used.toNat≤x.quota.toNat) then 1 else if room≤(i:Nat) then 16 else 0:=by
 have h1:(tblOf (l.take i)).length=i:=by unfold tblOf;rw [List.length_map,hl]
 unfold grantE
 rw [tblOf_lookup,hb,h1]
 by_cases h:1≤x.quota.toNat∧x.quota.toNat≤64∧x.used.toNat≤x.quota.toNat
 ·rw [if_neg (by omega),if_neg (c:=¬(_∧_∧_)) (fun hn=>hn h)]
  rfl
 ·rw [if_pos (by omega),if_pos h]
theorem sesS_no {next:UInt32} {room:Int} {l:List Sess} {i:Nat} (hi:i < l.length) (h:sesAt next l i=false∨room≤i):sesS next room l=false:=by
 unfold sesS
 rcases h with h|h
 ·rw [allR_no hi h,Bool.false_and]
 ·rw [Bool.and_eq_false_iff]
  exact .inr (decide_eq_false (by omega))
theorem clients_any {B:Nat} {w0:World} {bk m:Nat} {X:Bk} {room:Int} {g:Shf} {x:Sta} (h:(star (cliRs bk X m room [] g)).ok w0) (hs:StaAt B w0 x) (hB:∀k,(star (cliRs bk X m room [] g)).dom k→B≤k) (hBw:B≤w0.heap.size) (hf:FewI x) (hroom:0≤room) (hg:ShI g []) (hgn:g.next≤10):
  Calls Tryz.prog 106 #[ptr bk,x.v] w0 fun e w'=>∃q tl g',q=(sesS x.next room x.ses.l && blobS x.ses.l (x.blobs.l.map Blob.p))∧e= .returned (.bool q)∧(q=true→tl=tblOf x.ses.l∧ShI g' (x.blobs.l.map Blob.p))∧Mut (star (cliRs bk X m room [] g)) (star (cliRs bk X m room tl g')) w0 w':=by
 have hp:=Hp.open h
 have u1:=Tryz.underlying27
 have u2:=Tryz.underlying28
 have u5:=Tryz.underlying34
 have f1:=hf.ses
 have f2:=hf.blobs
 refine calls_x (args:= [_,_]) tabOk Tryz.func106 Tryz.ntmps106 Tryz.results106 rfl (Nat.le_of_ble_eq_true rfl) ?_
 ((conv=>whnf);repeat' ((first|((with_reducible apply ld_id);apply ld_hs hp;(focus repeat' constructor);exact rfl)|((with_reducible apply al_id);refine al_cel hp ?_;clear hp;intro bb w hp)|((with_reducible apply gen_id);apply gen_len;exact rfl;exact rfl;assumption))<;>(conv=>whnf)))
 obtain ⟨b3,hb3⟩:∃b,b=bb:=⟨_,rfl⟩
 subst hb3
 refine lp_inv (α:=Nat) (fun i=> [(0,ptr bk),(3,ptr b3),(12,x.ses.v),(13,i64 x.ses.l.length),(14,i64 i)]) (fun i w=>i≤x.ses.l.length∧(i:Int)≤room∧(∀k,k < i→sesAt x.next x.ses.l k=true)∧Hp (star (cliRs bk X m room [] g)).dom w0 w (cel b3 31 x.c.toArray::cliRs bk X m room (tblOf (x.ses.l.take i)) g)) (fun i=>x.ses.l.length - i) 0 (by (repeat' (first|exact trivial|(refine ⟨rfl,?_⟩)))) ⟨by omega,by simpa using hroom,fun k hk=>absurd hk (by omega),hp⟩ ?_
 clear hp
 rintro i e0 w ⟨hi,hir,hall,hp⟩
 dsimp only at hi hir hall hp ⊢
 rcases Nat.lt_or_ge i x.ses.l.length with hlt|hge
 ·obtain ⟨b,o,y,hA,hbb,hrow,hyy⟩:=hs.ses.has hlt
  have htl:(x.ses.l.take i).length=i:=by rw [List.length_take];omega
  have hno:∀{w:World},(sesAt x.next x.ses.l i=false∨room≤i)→Hp (star (cliRs bk X m room [] g)).dom w0 w (cliRs bk X m room (tblOf (x.ses.l.take i)) g)→∃q tl g',q=(sesS x.next room x.ses.l && blobS x.ses.l (x.blobs.l.map Blob.p))∧Ending.returned (.bool false)= .returned (.bool q)∧(q=true→tl=tblOf x.ses.l∧ShI g' (x.blobs.l.map Blob.p))∧Mut (star (cliRs bk X m room [] g)) (star (cliRs bk X m room tl g')) w0 w:=fun hn hp=>
   ⟨false,tblOf (x.ses.l.take i),g,by rw [sesS_no hlt hn,Bool.false_and],rfl,fun hh=>(by cases hh),hp.shut (.refl _)⟩
  have hsa:sesAt x.next x.ses.l i=(decide (y.id.toNat < x.next.toNat) && (ascAt y x.ses.l i && decide (1≤y.quota.toNat∧y.quota.toNat≤64∧y.used.toNat≤y.quota.toNat))):=by unfold sesAt;rw [hyy]
  have hyes:y.id.toNat < x.next.toNat→ascAt y x.ses.l i=true→grantE (tblOf (x.ses.l.take i)) room y=0→(sesAt x.next x.ses.l i=true∧i < room)∧grantL (tblOf (x.ses.l.take i)) room y=tblOf (x.ses.l.take (i+1)):=fun h1 h2 h3=>by
   have hb:=asc_none hall hyy h2
   have h4:=grant_is (room:=room) htl hb
   rw [h3] at h4
   have h5:1≤y.quota.toNat∧y.quota.toNat≤64∧y.used.toNat≤y.quota.toNat:=by
    apply Classical.byContradiction
    intro hn
    rw [if_pos hn] at h4
    cases h4
   rw [if_neg (fun hn=>hn h5)] at h4
   have h6:¬room≤(i:Nat):=fun hn=>by rw [if_pos hn] at h4;cases h4
   refine ⟨⟨by rw [hsa,decide_eq_true h1,h2,decide_eq_true h5];rfl,by omega⟩,?_⟩
   unfold grantL
   rw [if_pos h3,tblOf_put hb,List.take_add_one,hyy]
   rfl
  have hnot:y.id.toNat < x.next.toNat→ascAt y x.ses.l i=true→grantE (tblOf (x.ses.l.take i)) room y≠0→sesAt x.next x.ses.l i=false∨room≤i:=fun h1 h2 h3=>by
   have hb:=asc_none hall hyy h2
   have h4:=grant_is (room:=room) htl hb
   by_cases h5:1≤y.quota.toNat∧y.quota.toNat≤64∧y.used.toNat≤y.quota.toNat
   ·rw [if_neg (fun hn=>hn h5)] at h4
    by_cases h6:room≤(i:Nat)
    ·exact .inr h6
    ·rw [if_neg h6] at h4
     exact (h3 h4).elim
   ·exact .inl (by rw [hsa,decide_eq_false h5,Bool.and_false,Bool.and_false])
  obtain ⟨E,hE⟩:∃E:Nat,grantE (tblOf (x.ses.l.take i)) room y=E:=⟨_,rfl⟩
  by_cases h1:y.id.toNat < x.next.toNat
  ·cases i with
   |zero=>
    have hasc:ascAt y x.ses.l 0=true:=rfl
    ((conv=>whnf);repeat' ((first|((with_reducible apply br_id);first|with_reducible refine br_f ?_|((with_reducible refine br_dec (fun hx=>?_) (fun hx=>?_))<;>(try (exfalso;first|omega|contradiction))))|((with_reducible apply cn_id);refine cn rfl ?_)|((with_reducible apply ld_id);apply ld_hs hp;(focus repeat' constructor);exact rfl)|((with_reducible apply ldn_id);first|(refine ldn_rowx hp hB ‹_› ‹_› _ rfl ‹_› rfl ?_)|(apply lda_hs hp;(focus repeat' constructor);exact rfl))|((with_reducible apply al_id);refine al_cel hp ?_;clear hp;intro bb w hp)|((with_reducible apply st_id);apply sta_hs hp;(focus repeat' constructor);exact rfl;exact rfl;clear hp;intro w hp;(try dsimp only [List.set] at hp))|((with_reducible apply gen_id);(refine gen_ixs rfl rfl ‹_› rfl rfl (by omega) ?_))|((with_reducible apply dr_id);refine dr_auto tabOk (by kernel_rfl) (by decide+kernel) ?_;(try replace hp:=hp.drew)))<;>(conv=>whnf)))
    refine cl_eq (grant_any (hp.get (j:=3) rfl) y) rfl rfl ?_
    rintro e w ⟨rfl,hm⟩
    replace hp:=hp.via (j:=3) rfl hm
    clear hm
    dsimp only [List.set] at hp
    rw [hE]
    refine ⟨_,rfl,?_⟩
    by_cases hE0:E=0
    ·obtain ⟨⟨hs1,hs2⟩,hgl⟩:=hyes h1 hasc (by rw [hE];exact hE0)
     rw [hgl] at hp
     subst hE0
     ((conv=>whnf);repeat' ((first|((with_reducible apply br_id);first|with_reducible refine br_f ?_|((with_reducible refine br_ne (fun hx=>?_) (fun hx=>?_))<;>(try (exfalso;first|omega|contradiction))))|((with_reducible apply ar_id);refine ar_i64 (by omega) ?_))<;>(conv=>whnf)))
     exact lp_next (0+1) (by show x.ses.l.length - (0+1) < x.ses.l.length - 0;omega) (by (repeat' (first|exact trivial|(refine ⟨rfl,?_⟩)))) ⟨by show 0+1≤_;omega,by show ((0+1:Nat):Int)≤room;omega,all_step hall hs1,hp.tail⟩
    ·have hgl:grantL (tblOf (x.ses.l.take 0)) room y=tblOf (x.ses.l.take 0):=by unfold grantL;rw [if_neg (by rw [hE];exact hE0)]
     rw [hgl] at hp
     ((conv=>whnf);repeat' (((with_reducible apply br_id);first|with_reducible refine br_f ?_|((with_reducible refine br_ne (fun hx=>?_) (fun hx=>?_))<;>(try (exfalso;first|omega|contradiction))))<;>(conv=>whnf)))
     exact ps_val (v':= .bool false) rfl (hno (hnot h1 hasc (by rw [hE];exact hE0)) hp.tail.tail)
   |succ k=>
    obtain ⟨z,hz⟩:∃z,x.ses.l[k]? =some z:=⟨_,List.getElem?_eq_getElem (by omega)⟩
    have haz:ascAt y x.ses.l (k+1)=decide (z.id.toNat < y.id.toNat):=by unfold ascAt;dsimp only;rw [hz]
    by_cases h2:z.id.toNat < y.id.toNat
    ·have hasc:ascAt y x.ses.l (k+1)=true:=by rw [haz,decide_eq_true h2]
     ((conv=>whnf);repeat' ((first|((with_reducible apply br_id);first|with_reducible refine br_t ?_|with_reducible refine br_f ?_|((with_reducible refine br_dec (fun hx=>?_) (fun hx=>?_))<;>(try (exfalso;first|omega|contradiction))))|((with_reducible apply ar_id);(refine ar_n (k) (by omega) (by omega) ?_))|((with_reducible apply cn_id);refine cn rfl ?_)|((with_reducible apply ld_id);first|(refine ld_row hp hB ‹_› ‹_› _ _ rfl ‹_› (by rfl) ?_)|(apply ld_hs hp;(focus repeat' constructor);exact rfl))|((with_reducible apply ldn_id);first|(refine ldn_rowx hp hB ‹_› ‹_› _ rfl ‹_› rfl ?_)|(apply lda_hs hp;(focus repeat' constructor);exact rfl))|((with_reducible apply al_id);refine al_cel hp ?_;clear hp;intro bb w hp)|((with_reducible apply st_id);apply sta_hs hp;(focus repeat' constructor);exact rfl;exact rfl;clear hp;intro w hp;(try dsimp only [List.set] at hp))|((with_reducible apply gen_id);(refine gen_ixs rfl rfl ‹_› rfl rfl (by omega) ?_))|((with_reducible apply dr_id);refine dr_auto tabOk (by kernel_rfl) (by decide+kernel) ?_;(try replace hp:=hp.drew))|((with_reducible apply rd_id);(refine rd_ixs rfl rfl ‹_› rfl rfl (by omega) ?_)))<;>(conv=>whnf)))
     refine cl_eq (grant_any (hp.get (j:=3) rfl) y) rfl rfl ?_
     rintro e w ⟨rfl,hm⟩
     replace hp:=hp.via (j:=3) rfl hm
     clear hm
     dsimp only [List.set] at hp
     rw [hE]
     refine ⟨_,rfl,?_⟩
     by_cases hE0:E=0
     ·obtain ⟨⟨hs1,hs2⟩,hgl⟩:=hyes h1 hasc (by rw [hE];exact hE0)
      rw [hgl] at hp
      subst hE0
      ((conv=>whnf);repeat' ((first|((with_reducible apply br_id);first|with_reducible refine br_f ?_|((with_reducible refine br_ne (fun hx=>?_) (fun hx=>?_))<;>(try (exfalso;first|omega|contradiction))))|((with_reducible apply ar_id);refine ar_i64 (by omega) ?_))<;>(conv=>whnf)))
      exact lp_next (k+1+1) (by show x.ses.l.length - (k+1+1) < x.ses.l.length - (k+1);omega) (by (repeat' (first|exact trivial|(refine ⟨rfl,?_⟩)))) ⟨by show k+1+1≤_;omega,by show ((k+1+1:Nat):Int)≤room;omega,all_step hall hs1,hp.tail⟩
     ·have hgl:grantL (tblOf (x.ses.l.take (k+1))) room y=tblOf (x.ses.l.take (k+1)):=by unfold grantL;rw [if_neg (by rw [hE];exact hE0)]
      rw [hgl] at hp
      ((conv=>whnf);repeat' (((with_reducible apply br_id);first|with_reducible refine br_f ?_|((with_reducible refine br_ne (fun hx=>?_) (fun hx=>?_))<;>(try (exfalso;first|omega|contradiction))))<;>(conv=>whnf)))
      exact ps_val (v':= .bool false) rfl (hno (hnot h1 hasc (by rw [hE];exact hE0)) hp.tail.tail)
    ·have hn:sesAt x.next x.ses.l (k+1)=false:=by rw [hsa,haz,decide_eq_false h2,Bool.false_and,Bool.and_false]
     ((conv=>whnf);repeat' ((first|((with_reducible apply br_id);first|with_reducible refine br_t ?_|with_reducible refine br_f ?_|((with_reducible refine br_dec (fun hx=>?_) (fun hx=>?_))<;>(try (exfalso;first|omega|contradiction))))|((with_reducible apply ar_id);(refine ar_n (k) (by omega) (by omega) ?_))|((with_reducible apply cn_id);refine cn rfl ?_)|((with_reducible apply ld_id);first|(refine ld_row hp hB ‹_› ‹_› _ _ rfl ‹_› (by rfl) ?_)|(apply ld_hs hp;(focus repeat' constructor);exact rfl))|((with_reducible apply ldn_id);(refine ldn_rowx hp hB ‹_› ‹_› _ rfl ‹_› rfl ?_))|((with_reducible apply al_id);refine al_cel hp ?_;clear hp;intro bb w hp)|((with_reducible apply st_id);apply sta_hs hp;(focus repeat' constructor);exact rfl;exact rfl;clear hp;intro w hp;(try dsimp only [List.set] at hp))|((with_reducible apply gen_id);(refine gen_ixs rfl rfl ‹_› rfl rfl (by omega) ?_))|((with_reducible apply dr_id);refine dr_auto tabOk (by kernel_rfl) (by decide+kernel) ?_;(try replace hp:=hp.drew))|((with_reducible apply rd_id);(refine rd_ixs rfl rfl ‹_› rfl rfl (by omega) ?_)))<;>(conv=>whnf)))
     exact ps_val (v':= .bool false) rfl (hno (.inl hn) hp.tail.tail)
  ·have hn:sesAt x.next x.ses.l i=false:=by rw [hsa,decide_eq_false h1,Bool.false_and]
   ((conv=>whnf);repeat' ((first|((with_reducible apply br_id);first|with_reducible refine br_t ?_|((with_reducible refine br_dec (fun hx=>?_) (fun hx=>?_))<;>(try (exfalso;first|omega|contradiction))))|((with_reducible apply cn_id);refine cn rfl ?_)|((with_reducible apply ld_id);apply ld_hs hp;(focus repeat' constructor);exact rfl)|((with_reducible apply ldn_id);(refine ldn_rowx hp hB ‹_› ‹_› _ rfl ‹_› rfl ?_))|((with_reducible apply al_id);refine al_cel hp ?_;clear hp;intro bb w hp)|((with_reducible apply st_id);apply sta_hs hp;(focus repeat' constructor);exact rfl;exact rfl;clear hp;intro w hp;(try dsimp only [List.set] at hp))|((with_reducible apply gen_id);(refine gen_ixs rfl rfl ‹_› rfl rfl (by omega) ?_))|((with_reducible apply dr_id);refine dr_auto tabOk (by kernel_rfl) (by decide+kernel) ?_;(try replace hp:=hp.drew)))<;>(conv=>whnf)))
   exact ps_val (v':= .bool false) rfl (hno (.inl hn) hp.tail.tail)
 have hsS:sesS x.next room x.ses.l=true:=by
  unfold sesS
  rw [allR_yes fun k hk=>hall k (by omega),Bool.true_and]
  exact decide_eq_true (by omega)
 rw [List.take_of_length_le hge] at hp
 rw [hsS,Bool.true_and]
 ((conv=>whnf);repeat' ((first|((with_reducible apply br_id);(with_reducible refine br_dec (fun hx=>?_) (fun hx=>?_))<;>(try (exfalso;first|omega|contradiction)))|((with_reducible apply ld_id);apply ld_hs hp;(focus repeat' constructor);exact rfl)|((with_reducible apply gen_id);apply gen_len;exact rfl;exact rfl;assumption))<;>(conv=>whnf)))
 refine lp_inv (α:=Nat×Shf) (fun a=> [(0,ptr bk),(3,ptr b3),(51,x.blobs.v),(52,i64 x.blobs.l.length),(53,i64 a.1)]) (fun a w=>a.1≤x.blobs.l.length∧(∀k,k < a.1→blobAt x.ses.l (x.blobs.l.map Blob.p) k=true)∧ShI a.2 ((x.blobs.l.map Blob.p).take a.1)∧a.2.next≤10+a.1∧Hp (star (cliRs bk X m room [] g)).dom w0 w (cel b3 31 x.c.toArray::cliRs bk X m room (tblOf x.ses.l) a.2)) (fun a=>x.blobs.l.length - a.1) (0,g) (by (repeat' (first|exact trivial|(refine ⟨rfl,?_⟩)))) ⟨by omega,fun k hk=>absurd hk (by omega),by rw [List.take_zero];exact hg,by show g.next≤10+((0:Nat):Int);omega,hp⟩ ?_
 clear hp hi hir hall hge hgn hg
 rintro ⟨i,gi⟩ e0 w ⟨hi,hall,hg,hgn,hp⟩
 dsimp only at hi hall hg hgn hp ⊢
 rcases Nat.lt_or_ge i x.blobs.l.length with hlt|hge
 ·obtain ⟨b,o,y,hA,hbb,hrow,hyy⟩:=hs.blobs.row.has hlt
  have hmem:=List.mem_of_getElem? hyy
  have hya:=hs.blobs.data y hmem
  have hyp:(x.blobs.l.map Blob.p)[i]? =some y.p:=by rw [List.getElem?_map,hyy];rfl
  have hba:blobAt x.ses.l (x.blobs.l.map Blob.p) i=(useOk y.key.seq (byId x.ses.l y.key.ses) && decide (addE ((x.blobs.l.map Blob.p).take i) y.p=0)):=by unfold blobAt;rw [hyp];rfl
  have hno:∀{w:World} {g':Shf},blobAt x.ses.l (x.blobs.l.map Blob.p) i=false→Hp (star (cliRs bk X m room [] g)).dom w0 w (cliRs bk X m room (tblOf x.ses.l) g')→∃q tl g',q=blobS x.ses.l (x.blobs.l.map Blob.p)∧Ending.returned (.bool false)= .returned (.bool q)∧(q=true→tl=tblOf x.ses.l∧ShI g' (x.blobs.l.map Blob.p))∧Mut (star (cliRs bk X m room [] g)) (star (cliRs bk X m room tl g')) w0 w:=fun {w g'} hn hp=>
   ⟨false,tblOf x.ses.l,g',by rw [show blobS x.ses.l (x.blobs.l.map Blob.p)=false from allR_no (by rw [List.length_map];exact hlt) hn],rfl,fun hh=>(by cases hh),hp.shut (.refl _)⟩
  obtain ⟨zz,hzz⟩:∃zz,(byId x.ses.l y.key.ses).getD Sess.z=zz:=⟨_,rfl⟩
  obtain ⟨qz,hqz⟩:∃qz,(byId x.ses.l y.key.ses).isSome=qz:=⟨_,rfl⟩
  have hget:∀{w:World},(tabR X.bs m room (tblOf x.ses.l)).ok w→Calls Tryz.prog 141 #[ptr X.bs,u32 y.key.ses] w fun e w'=>e= .returned (.tuple #[zz.v, .bool qz])∧Mut (tabR X.bs m room (tblOf x.ses.l)) (tabR X.bs m room (tblOf x.ses.l)) w w':=fun hh=>by
   have:=get_any hh y.key.ses
   rw [tblOf_lookup,hzz,hqz] at this
   exact this
  ((conv=>whnf);repeat' ((first|((with_reducible apply br_id);(with_reducible refine br_dec (fun hx=>?_) (fun hx=>?_))<;>(try (exfalso;first|omega|contradiction)))|((with_reducible apply cn_id);refine cn rfl ?_)|((with_reducible apply ldn_id);(refine ldn_rowx hp hB ‹_› ‹_› _ rfl ‹_› rfl ?_))|((with_reducible apply al_id);refine al_cel hp ?_;clear hp;intro bb w hp)|((with_reducible apply st_id);apply sta_hs hp;(focus repeat' constructor);exact rfl;exact rfl;clear hp;intro w hp;(try dsimp only [List.set] at hp))|((with_reducible apply gen_id);(refine gen_ixs rfl rfl ‹_› rfl rfl (by omega) ?_)))<;>(conv=>whnf)))
  refine dr_cut (fun e w=>∃(b8 b9:Nat) (e0:Nat→Value),e=eat [(0,ptr bk),(3,ptr b3),(8,ptr b8),(9,ptr b9),(10, .bool qz),(51,x.blobs.v),(52,i64 x.blobs.l.length),(53,i64 i)] ⟨e0, []⟩∧Hp (star (cliRs bk X m room [] g)).dom w0 w (cel b9 103 zz.c.toArray::cel b8 46 y.c.toArray::cel b3 31 x.c.toArray::cliRs bk X m room (tblOf x.ses.l) gi)) ?_ ?_
  ·((conv=>whnf);repeat' ((first|((with_reducible apply cn_id);refine cn rfl ?_)|((with_reducible apply ld_id);apply ld_hs hp;(focus repeat' constructor);exact rfl)|((with_reducible apply al_id);refine al_cel hp ?_;clear hp;intro bb w hp)|((with_reducible apply st_id);apply sta_hs hp;(focus repeat' constructor);exact rfl;exact rfl;clear hp;intro w hp;(try dsimp only [List.set] at hp))|((with_reducible apply dr_id);refine dr_autot tabOk (by kernel_rfl) (by decide+kernel) ?_;(try replace hp:=hp.drew))|((with_reducible apply fk_id);refine fk_mk ?_ ?_)|((with_reducible apply cl_id);first|((refine cl_eq (hget (hp.get (j:=3) rfl)) rfl rfl ?_;rintro e w ⟨rfl,hm⟩;replace hp:=hp.via (j:=3) rfl hm;clear hm;dsimp only [List.set] at hp;refine ⟨_,rfl,?_⟩))|((refine cl_eq (hget (hp.get (j:=4) rfl)) rfl rfl ?_;rintro e w ⟨rfl,hm⟩;replace hp:=hp.via (j:=4) rfl hm;clear hm;dsimp only [List.set] at hp;refine ⟨_,rfl,?_⟩))))<;>(conv=>whnf)))
   all_goals exact ⟨_,_,_,eat_holds (by (repeat' (first|exact trivial|(refine ⟨rfl,?_⟩)))),hp⟩
  clear hp
  rintro e w ⟨b8,b9,e0,rfl,hp⟩
  cases hz:byId x.ses.l y.key.ses with
  |none=>
   have hn:blobAt x.ses.l (x.blobs.l.map Blob.p) i=false:=by rw [hba,hz];rfl
   obtain rfl:qz=false:=by rw [hz] at hqz;exact hqz.symm
   ((conv=>whnf);repeat' ((first|((with_reducible apply br_id);first|with_reducible refine br_t ?_|with_reducible refine br_f ?_|with_reducible refine br_not ?_)|((with_reducible apply dr_id);refine dr_auto tabOk (by kernel_rfl) (by decide+kernel) ?_;(try replace hp:=hp.drew)))<;>(conv=>whnf)))
   exact ps_val (v':= .bool false) rfl (hno hn hp.tail.tail.tail)
  |some z=>
   obtain rfl:qz=true:=by rw [hz] at hqz;exact hqz.symm
   obtain rfl:z=zz:=by rw [hz] at hzz;exact hzz
   by_cases h1:y.key.seq.toNat < z.used.toNat
   ·((conv=>whnf);repeat' ((first|((with_reducible apply br_id);first|with_reducible refine br_t ?_|with_reducible refine br_f ?_|with_reducible refine br_not ?_|((with_reducible refine br_dec (fun hx=>?_) (fun hx=>?_))<;>(try (exfalso;first|omega|contradiction))))|((with_reducible apply ld_id);apply ld_hs hp;(focus repeat' constructor);exact rfl)|((with_reducible apply ldn_id);apply lda_hs hp;(focus repeat' constructor);exact rfl)|((with_reducible apply dr_id);refine dr_auto tabOk (by kernel_rfl) (by decide+kernel) ?_;(try replace hp:=hp.drew)))<;>(conv=>whnf)))
    refine cl_eq (shadd_any (hp.get (j:=5) rfl) hg y (out_lt (hya.keep hp.chg hB) fun k hk=>?_) (Nat.le_trans hBw hp.chg.size) (by rw [List.length_take,List.length_map];omega) (by omega)) rfl rfl ?_
    ·have h2:=hp.own (star (shRs X.bh gi)) (by simp) k hk
     rcases h2 with h2|h2
     ·exact hB k h2
     ·omega
    rintro e w ⟨g',rfl,hg',hgn',hm⟩
    replace hp:=hp.via (j:=5) rfl hm
    clear hm
    dsimp only [List.set] at hp
    refine ⟨_,rfl,?_⟩
    obtain ⟨E,hE⟩:∃E:Nat,addE ((x.blobs.l.map Blob.p).take i) y.p=E:=⟨_,rfl⟩
    rw [hE] at hba ⊢
    by_cases hE0:E=0
    ·subst hE0
     have hb1:blobAt x.ses.l (x.blobs.l.map Blob.p) i=true:=by rw [hba,hz];exact (Bool.and_true _).trans (decide_eq_true h1)
     unfold addW at hg'
     rw [if_pos hE] at hg'
     ((conv=>whnf);repeat' ((first|((with_reducible apply br_id);first|with_reducible refine br_f ?_|((with_reducible refine br_ne (fun hx=>?_) (fun hx=>?_))<;>(try (exfalso;first|omega|contradiction))))|((with_reducible apply ar_id);refine ar_i64 (by omega) ?_))<;>(conv=>whnf)))
     refine lp_next (i+1,g') (by show x.blobs.l.length - (i+1) < x.blobs.l.length - i;omega) (by (repeat' (first|exact trivial|(refine ⟨rfl,?_⟩)))) ⟨by show i+1≤_;omega,all_step hall hb1,?_,by show g'.next≤10+(i+1);omega,hp.tail.tail⟩
     rw [List.take_add_one,hyp]
     exact hg'
    ·have hn:blobAt x.ses.l (x.blobs.l.map Blob.p) i=false:=by rw [hba,decide_eq_false hE0,Bool.and_false]
     ((conv=>whnf);repeat' (((with_reducible apply br_id);first|with_reducible refine br_f ?_|((with_reducible refine br_ne (fun hx=>?_) (fun hx=>?_))<;>(try (exfalso;first|omega|contradiction))))<;>(conv=>whnf)))
     exact ps_val (v':= .bool false) rfl (hno hn hp.tail.tail.tail)
   ·have hn:blobAt x.ses.l (x.blobs.l.map Blob.p) i=false:=by rw [hba,hz];exact (congrArg (· && _) (decide_eq_false h1)).trans rfl
    ((conv=>whnf);repeat' ((first|((with_reducible apply br_id);first|with_reducible refine br_t ?_|with_reducible refine br_f ?_|with_reducible refine br_not ?_|((with_reducible refine br_dec (fun hx=>?_) (fun hx=>?_))<;>(try (exfalso;first|omega|contradiction))))|((with_reducible apply ld_id);apply ld_hs hp;(focus repeat' constructor);exact rfl)|((with_reducible apply dr_id);refine dr_auto tabOk (by kernel_rfl) (by decide+kernel) ?_;(try replace hp:=hp.drew)))<;>(conv=>whnf)))
    exact ps_val (v':= .bool false) rfl (hno hn hp.tail.tail.tail)
 ·have hbS:blobS x.ses.l (x.blobs.l.map Blob.p)=true:=allR_yes fun k hk=>hall k (by rw [List.length_map] at hk;omega)
  ((conv=>whnf);repeat' (((with_reducible apply br_id);(with_reducible refine br_dec (fun hx=>?_) (fun hx=>?_))<;>(try (exfalso;first|omega|contradiction)))<;>(conv=>whnf)))
  refine ps_val (v':= .bool true) rfl ⟨true,tblOf x.ses.l,gi,hbS.symm,rfl,fun _=>⟨rfl,?_⟩,hp.tail.shut (.refl _)⟩
  rwa [List.take_of_length_le (by rw [List.length_map];exact hge)] at hg
end Go.Proofs.YtpbapnlnheahnaaGreatDoor
