/- Aud1: package audit: rules that a book tells. Of states that are few. -/
import Derived.Test.YteabebmlclgakaaGreatMAuditTellssBook4
import Derived.Test.YteabebmlclgakaaGreatMAuditTells11
set_option linter.unusedSimpArgs false
set_option linter.unusedVariables false
namespace Go.Proofs.YteabebmlclgakaaGreat
open Go.RowKit
set_option maxRecDepth 100000
set_option maxHeartbeats 4000000
abbrev cfA:Cfg:=⟨1,1,1,64,1,1⟩
abbrev aC:List Value:=i64 1::i64 1::i64 1::i64 64::i64 1::i64 1::u32 0::i64 0::u32 0::(Sl.nil (α:=Blk)).v::(Sl.nil (α:=Sess)).v::(Sl.nil (α:=Blob)).v::(Sl.nil (α:=Job)).v:: []
theorem afirst_any (w0:World):Calls Tryz.prog 202 #[] w0 fun e w'=>e= .returned (.agg aC.toArray)∧Chg N0 w0 w':=by
 have hp:=Hp.start (S:=N0) w0
 refine calls_x (args:= []) tabOk Tryz.func202 Tryz.ntmps202 Tryz.results202 rfl (Nat.le_of_ble_eq_true rfl) ?_
 ((conv=>whnf);repeat' ((first|((with_reducible refine cn_id ?_);(refine cn rfl ?_))|((with_reducible refine ldn_id ?_);(apply lda_hs hp;(focus repeat' constructor);exact rfl))|((with_reducible refine al_id ?_);(refine al_cel hp ?_;clear hp;intro bb w hp))|((with_reducible refine st_id ?_);(apply sta_hs hp;(focus repeat' constructor);exact rfl;exact rfl;clear hp;intro w hp;(try dsimp only [List.set] at hp)))|((with_reducible refine gen_id ?_);first|((refine gen_build (t:=31) (out:=aC) rfl (by kernel_rfl) ?_))|(apply gen_build;exact rfl;exact rfl)))<;>(conv=>whnf)))
 exact ps_val (v':= .agg aC.toArray) rfl ⟨rfl,hp.chg⟩
theorem acfg_any (w0:World) (x:Sta):Calls Tryz.prog 141 #[x.v] w0 fun e w'=>e= .returned (.bool (soundC x.cfg))∧Chg N0 w0 w':=by
 have hp:=Hp.start (S:=N0) w0
 refine calls_x (args:= [_]) tabOk Tryz.func141 Tryz.ntmps141 Tryz.results141 rfl (Nat.le_of_ble_eq_true rfl) ?_
 ((conv=>whnf);repeat' ((first|((with_reducible refine ldn_id ?_);(apply ldn_hs hp;(focus repeat' constructor);exact rfl;exact rfl))|((with_reducible refine al_id ?_);(refine al_cel hp ?_;clear hp;intro bb w hp))|((with_reducible refine cl_id ?_);((refine cl_eq ((sound_any _ x.cfg)) rfl rfl ?_;rintro e w ⟨rfl,hcc⟩;replace hp:=hp.call0 hcc;refine ⟨_,rfl,?_⟩))))<;>(conv=>whnf)))
 exact ps_val (v':= .bool (soundC x.cfg)) rfl ⟨rfl,hp.chg⟩
theorem alink_any {B:Nat} {w0:World} {x:Sta} (hs:StaAt B w0 x):Calls Tryz.prog 142 #[x.v] w0 fun e w'=>e= .returned (.bool (chS x.cfg.dep x.ht x.win.l))∧Chg N0 w0 w':=by
 have hp:=Hp.start (S:=N0) w0
 have hB:∀b,N0 b→B≤b:=fun _ hh=>hh.elim
 refine calls_x (args:= [_]) tabOk Tryz.func142 Tryz.ntmps142 Tryz.results142 rfl (Nat.le_of_ble_eq_true rfl) ?_
 ((conv=>whnf);repeat' ((first|((with_reducible refine ld_id ?_);(apply ld_hs hp;(focus repeat' constructor);exact rfl))|((with_reducible refine al_id ?_);(refine al_cel hp ?_;clear hp;intro bb w hp)))<;>(conv=>whnf)))
 have hs1:=hs.keep hp.chg hB
 refine cl_eq (chload_any x.cfg.dep x.ht hs1.win hs1.tx) rfl rfl ?_
 clear hs1
 rintro e w (⟨hch,rfl,hcc⟩|⟨hch,bc,W,hW,rfl,hm⟩)
 ·replace hp:=hp.call0 hcc
  refine ⟨_,rfl,?_⟩
  ((conv=>whnf);repeat' ((first|((with_reducible refine br_id ?_);first|(with_reducible refine br_t ?_)|(with_reducible refine br_f ?_)|(with_reducible refine br_not ?_)|((with_reducible refine br_dec (fun hx=>?_) (fun hx=>?_))<;>(try (exfalso;first|omega|contradiction)))|((with_reducible refine br_eq (fun hx=>?_) (fun hx=>?_))<;>(try (exfalso;first|omega|contradiction)))|((with_reducible refine br_ne (fun hx=>?_) (fun hx=>?_))<;>(try (exfalso;first|omega|contradiction)))|((with_reducible refine br_s (fun hx=>?_) (fun hx=>?_))<;>(try (exfalso;first|omega|contradiction))))|((with_reducible refine ar_id ?_);first|(refine ar_i64 (by omega) ?_)|(refine ar_u32 (by omega) ?_)|(refine ar_u64 (by omega) ?_)|(refine ar_u8 (by omega) ?_))|((with_reducible refine cn_id ?_);first|(refine cn rfl ?_)|(refine cn ‹_› ?_)|(refine cn (by omega) ?_)|(refine cn (Chg.refl _ _) ?_))|((with_reducible refine ld_id ?_);first|(apply ld_hs hp;(focus repeat' constructor);exact rfl)|(refine ld_of ‹_› ?_))|((with_reducible refine ldn_id ?_);first|(apply lda_hs hp;(focus repeat' constructor);exact rfl)|(apply ldn_hs hp;(focus repeat' constructor);exact rfl;exact rfl))|((with_reducible refine al_id ?_);(refine al_cel hp ?_;clear hp;intro bb w hp))|((with_reducible refine st_id ?_);first|(apply sta_hs hp;(focus repeat' constructor);exact rfl;exact rfl;clear hp;intro w hp;(try dsimp only [List.set] at hp))|(apply st_hs hp;(focus repeat' constructor);exact rfl;exact rfl;clear hp;intro w hp;(try dsimp only [List.set] at hp)))|((with_reducible refine gen_id ?_);first|(apply gen_build;exact rfl;exact rfl)|(apply gen_len;exact rfl;exact rfl;assumption)|(apply gen_min;exact rfl;exact rfl;exact rfl)|(apply gen_max;exact rfl;exact rfl;exact rfl)|(apply gen_ix;exact rfl;exact rfl;exact rfl;exact rfl;omega)|(apply gen_ixa;exact rfl;exact rfl;exact rfl;exact rfl;omega))|((with_reducible refine dr_id ?_);first|(refine dr_auto tabOk (by kernel_rfl) (by decide+kernel) ?_;(try replace hp:=hp.drew))|(refine dr_autog tabOk (by kernel_rfl) (by decide+kernel) ?_;(try replace hp:=hp.drew))|(refine dr_autot tabOk (by kernel_rfl) (by decide+kernel) ?_;(try replace hp:=hp.drew)))|((with_reducible refine fk_id ?_);(refine fk_mk ?_ ?_))|((with_reducible refine rd_id ?_);first|(apply rd_len;exact rfl;exact rfl;assumption)|(apply rd_ix;exact rfl;exact rfl;exact rfl;exact rfl;omega)))<;>(conv=>whnf)))
  exact ps_val (v':= .bool false) rfl ⟨by rw [hch],hp.chg⟩
 ·replace hp:=hp.add hm
  refine ⟨_,rfl,?_⟩
  ((conv=>whnf);repeat' ((first|((with_reducible refine br_id ?_);first|(with_reducible refine br_t ?_)|(with_reducible refine br_f ?_)|(with_reducible refine br_not ?_)|((with_reducible refine br_dec (fun hx=>?_) (fun hx=>?_))<;>(try (exfalso;first|omega|contradiction)))|((with_reducible refine br_eq (fun hx=>?_) (fun hx=>?_))<;>(try (exfalso;first|omega|contradiction)))|((with_reducible refine br_ne (fun hx=>?_) (fun hx=>?_))<;>(try (exfalso;first|omega|contradiction)))|((with_reducible refine br_s (fun hx=>?_) (fun hx=>?_))<;>(try (exfalso;first|omega|contradiction))))|((with_reducible refine ar_id ?_);first|(refine ar_i64 (by omega) ?_)|(refine ar_u32 (by omega) ?_)|(refine ar_u64 (by omega) ?_)|(refine ar_u8 (by omega) ?_))|((with_reducible refine cn_id ?_);first|(refine cn rfl ?_)|(refine cn ‹_› ?_)|(refine cn (by omega) ?_)|(refine cn (Chg.refl _ _) ?_))|((with_reducible refine ld_id ?_);first|(apply ld_hs hp;(focus repeat' constructor);exact rfl)|(refine ld_of ‹_› ?_))|((with_reducible refine ldn_id ?_);first|(apply lda_hs hp;(focus repeat' constructor);exact rfl)|(apply ldn_hs hp;(focus repeat' constructor);exact rfl;exact rfl))|((with_reducible refine al_id ?_);(refine al_cel hp ?_;clear hp;intro bb w hp))|((with_reducible refine st_id ?_);first|(apply sta_hs hp;(focus repeat' constructor);exact rfl;exact rfl;clear hp;intro w hp;(try dsimp only [List.set] at hp))|(apply st_hs hp;(focus repeat' constructor);exact rfl;exact rfl;clear hp;intro w hp;(try dsimp only [List.set] at hp)))|((with_reducible refine gen_id ?_);first|(apply gen_build;exact rfl;exact rfl)|(apply gen_len;exact rfl;exact rfl;assumption)|(apply gen_min;exact rfl;exact rfl;exact rfl)|(apply gen_max;exact rfl;exact rfl;exact rfl)|(apply gen_ix;exact rfl;exact rfl;exact rfl;exact rfl;omega)|(apply gen_ixa;exact rfl;exact rfl;exact rfl;exact rfl;omega))|((with_reducible refine dr_id ?_);first|(refine dr_auto tabOk (by kernel_rfl) (by decide+kernel) ?_;(try replace hp:=hp.drew))|(refine dr_autog tabOk (by kernel_rfl) (by decide+kernel) ?_;(try replace hp:=hp.drew))|(refine dr_autot tabOk (by kernel_rfl) (by decide+kernel) ?_;(try replace hp:=hp.drew)))|((with_reducible refine fk_id ?_);(refine fk_mk ?_ ?_))|((with_reducible refine rd_id ?_);first|(apply rd_len;exact rfl;exact rfl;assumption)|(apply rd_ix;exact rfl;exact rfl;exact rfl;exact rfl;omega)))<;>(conv=>whnf)))
  exact ps_val (v':= .bool true) rfl ⟨by rw [hch],hp.chg⟩
theorem right_halt (h:Int):rightS ⟨cfA,0,h,0,Sl.nil,Sl.nil,Sl.nil,Sl.nil⟩=haltE h:=by
 unfold rightS
 rw [show soundC cfA=true by decide]
 show (true && (haltE h && true))=haltE h
 rw [Bool.true_and,Bool.and_true]
theorem ahalt_any {w0:World} (x:Sta):Calls Tryz.prog 143 #[x.v] w0 fun e w'=>e= .returned (.bool (haltE x.halt))∧Chg N0 w0 w':=by
 have hp:=Hp.start (S:=N0) w0
 have hr:∀w:World,Calls Tryz.prog 35 #[Sta.v ⟨cfA,0,x.halt,0,Sl.nil,Sl.nil,Sl.nil,Sl.nil⟩] w fun e w'=>e= .returned (.bool (haltE x.halt))∧Chg N0 w w':=fun w=>by
  rw [←right_halt x.halt]
  exact bright_any (B:=w.heap.size) ⟨.none_,fun _ h=>(by cases h), .none_,⟨.none_,fun _ h=>(by cases h)⟩, .none_,fun _ h=>(by cases h)⟩ (Nat.le_refl _) ⟨by simp [Sl.nil],by simp [Sl.nil],by simp [Sl.nil],by simp [Sl.nil],fun _ h=>(by cases h),fun _ h=>(by cases h),fun _ h=>(by cases h)⟩ (fun _ h=>(by cases h))
 refine calls_x (args:= [_]) tabOk Tryz.func143 Tryz.ntmps143 Tryz.results143 rfl (Nat.le_of_ble_eq_true rfl) ?_
 ((conv=>whnf);repeat' ((first|((with_reducible refine cn_id ?_);(refine cn rfl ?_))|((with_reducible refine ld_id ?_);(apply ld_hs hp;(focus repeat' constructor);exact rfl))|((with_reducible refine ldn_id ?_);(apply lda_hs hp;(focus repeat' constructor);exact rfl))|((with_reducible refine al_id ?_);(refine al_cel hp ?_;clear hp;intro bb w hp))|((with_reducible refine st_id ?_);first|(apply sta_hs hp;(focus repeat' constructor);exact rfl;exact rfl;clear hp;intro w hp;(try dsimp only [List.set] at hp))|(apply st_hs hp;(focus repeat' constructor);exact rfl;exact rfl;clear hp;intro w hp;(try dsimp only [List.set] at hp)))|((with_reducible refine cl_id ?_);first|((refine cl_eq ((afirst_any _)) rfl rfl ?_;rintro e w ⟨rfl,hcc⟩;replace hp:=hp.call0 hcc;refine ⟨_,rfl,?_⟩))|((refine cl_eq ((hr _)) rfl rfl ?_;rintro e w ⟨rfl,hcc⟩;replace hp:=hp.call0 hcc;refine ⟨_,rfl,?_⟩))))<;>(conv=>whnf)))
 exact ps_val (v':= .bool (haltE x.halt)) rfl ⟨rfl,hp.chg⟩
theorem right_jobs (ht:UInt32) (s:Sl Job):rightS ⟨cfA,ht,0,0,Sl.nil,Sl.nil,Sl.nil,s⟩=jobS ht s.l:=by
 unfold rightS
 rw [show soundC cfA=true by decide,show haltE 0=true by decide]
 rw [show chS cfA.dep ht (Sl.nil (α:=Blk)).l=true from by unfold chS;simp [Sl.nil]]
 show (true && (true && (true && (true && (true && jobS ht s.l)))))=jobS ht s.l
 simp
theorem ajobs_any {B:Nat} {w0:World} {x:Sta} (hs:StaAt B w0 x) (hBw:B≤w0.heap.size) (hf:FewI x) (hlv:∀j∈x.jobs.l, -9223372036854775808≤j.live∧j.live≤9223372036854775807):Calls Tryz.prog 146 #[x.v] w0 fun e w'=>e= .returned (.bool (jobS x.ht x.jobs.l))∧Chg N0 w0 w':=by
 have hp:=Hp.start (S:=N0) w0
 have hB:∀b,N0 b→B≤b:=fun _ hh=>hh.elim
 have hr:∀{w:World},Chg N0 w0 w→Calls Tryz.prog 35 #[Sta.v ⟨cfA,x.ht,0,0,Sl.nil,Sl.nil,Sl.nil,x.jobs⟩] w fun e w'=>e= .returned (.bool (jobS x.ht x.jobs.l))∧Chg N0 w w':=fun {w} hc=>by
  rw [←right_jobs]
  have t:=(hs.keep hc hB).more (Nat.le_trans hBw hc.size)
  exact bright_any (B:=w.heap.size) ⟨.none_,fun _ h=>(by cases h), .none_,⟨.none_,fun _ h=>(by cases h)⟩,t.jobs,t.pay⟩ (Nat.le_refl _) ⟨by simp [Sl.nil],by simp [Sl.nil],by simp [Sl.nil],hf.jobs,fun _ h=>(by cases h),fun _ h=>(by cases h),hf.pay⟩ hlv
 refine calls_x (args:= [_]) tabOk Tryz.func146 Tryz.ntmps146 Tryz.results146 rfl (Nat.le_of_ble_eq_true rfl) ?_
 ((conv=>whnf);repeat' ((first|((with_reducible refine cn_id ?_);(refine cn rfl ?_))|((with_reducible refine al_id ?_);(refine al_cel hp ?_;clear hp;intro bb w hp))|((with_reducible refine st_id ?_);(apply sta_hs hp;(focus repeat' constructor);exact rfl;exact rfl;clear hp;intro w hp;(try dsimp only [List.set] at hp)))|((with_reducible refine cl_id ?_);((refine cl_eq ((afirst_any _)) rfl rfl ?_;rintro e w ⟨rfl,hcc⟩;replace hp:=hp.call0 hcc;refine ⟨_,rfl,?_⟩))))<;>(conv=>whnf)))
 refine dr_autos [2,3] 5 tabOk (by kernel_rfl) (by decide+kernel) ?_
 replace hp:=hp.drew
 ((conv=>whnf);repeat' ((first|((with_reducible refine cn_id ?_);first|(refine cn rfl ?_)|(refine cn (Chg.refl _ _) ?_))|((with_reducible refine ld_id ?_);(apply ld_hs hp;(focus repeat' constructor);exact rfl))|((with_reducible refine ldn_id ?_);(apply lda_hs hp;(focus repeat' constructor);exact rfl))|((with_reducible refine st_id ?_);(apply st_hs hp;(focus repeat' constructor);exact rfl;exact rfl;clear hp;intro w hp;(try dsimp only [List.set] at hp)))|((with_reducible refine fk_id ?_);(refine fk_mk ?_ ?_))|((with_reducible refine cl_id ?_);((refine cl_eq ((hr hp.chg)) rfl rfl ?_;rintro e w ⟨rfl,hcc⟩;replace hp:=hp.call0 hcc;refine ⟨_,rfl,?_⟩))))<;>(conv=>whnf)))
 all_goals exact ps_val (v':= .bool (jobS x.ht x.jobs.l)) rfl ⟨rfl,hp.chg⟩
theorem gen_cutbb {α:Type} {P:Program} {w:World} {ρ:Operand→Value} {o:Oper} {g:Value→World→Prop} {t e:TypeId} {sz bytes:Nat} {x lo hi:Operand} (hop:o.op= .slice t x (some lo) (some hi) none) (hE:ElT P t e sz bytes) (s:Sl α) (hx:ρ x=s.v) (hc:s.l.length≤s.c) {k k':IntKind} {m m':Int} (hl:ρ lo= .int k m) (hh:ρ hi= .int k' m')
  {l h:Nat} (hm:m=l) (hm':m'=h) (h1:l≤h) (h2:h≤s.l.length) (hk:g (s.cut sz l h).v w):Gen P ρ o w g:=by
 subst hm hm'
 obtain ⟨ht,i,z,hi',_,hs,_⟩:=hE
 exact gen_v (run_cut hop ht ⟨i,hi',hs⟩ s hx hc ⟨k,hl⟩ ⟨k',hh⟩ h1 h2) hk
def sesA (next:UInt32) (l:List Sess):Bool:=(List.range l.length).all (sesAt next l)
theorem right_ses (next:UInt32) (s:Sl Sess):rightS ⟨cfA,0,0,next,Sl.nil,s,Sl.nil,Sl.nil⟩=(sesA next s.l && decide ((s.l.length:Int)≤64)):=by
 unfold rightS
 rw [show soundC cfA=true by decide,show haltE 0=true by decide]
 show (true && (true && (true && (sesS next 64 s.l && (true && true)))))=_
 simp [sesS,sesA]
theorem rses_any {B:Nat} {w:World} {next:UInt32} {s:Sl Sess} (h:SlAt B w Sess.c 4 s) (hBw:B≤w.heap.size) (hn:s.l.length≤6000):Calls Tryz.prog 35 #[Sta.v ⟨cfA,0,0,next,Sl.nil,s,Sl.nil,Sl.nil⟩] w fun e w'=>e= .returned (.bool (sesA next s.l && decide ((s.l.length:Int)≤64)))∧Chg N0 w w':=by
 rw [←right_ses]
 exact bright_any (B:=w.heap.size) ⟨.none_,fun _ h=>(by cases h),h.more hBw,⟨.none_,fun _ h=>(by cases h)⟩, .none_,fun _ h=>(by cases h)⟩ (Nat.le_refl _) ⟨hn,by simp [Sl.nil],by simp [Sl.nil],by simp [Sl.nil],fun _ h=>(by cases h),fun _ h=>(by cases h),fun _ h=>(by cases h)⟩ (fun _ h=>(by cases h))
def sesO (next:UInt32) (x:Sess):Bool:=decide (x.id.toNat < next.toNat) && decide (1≤x.quota.toNat∧x.quota.toNat≤64∧x.used.toNat≤x.quota.toNat)
theorem sesA_one (next:UInt32) (x:Sess):sesA next [x]=sesO next x:=by
 simp [sesA,sesAt,ascAt,sesO]
theorem sesAt_is {next:UInt32} {l:List Sess} {i:Nat} {x:Sess} (h:l[i]? =some x):sesAt next l i=(sesO next x && ascAt x l i):=by
 unfold sesAt sesO
 rw [h]
 dsimp only
 cases decide (x.id.toNat < next.toNat)<;>cases ascAt x l i<;>simp
theorem asome_any {B:Nat} {w0:World} {s:Sl Sess} (next:UInt32) (h:SlAt B w0 Sess.c 4 s) (hBw:B≤w0.heap.size) (hn:s.l.length≤6000):Calls Tryz.prog 203 #[s.v,u32 next] w0 fun e w'=>e= .returned (.bool (sesA next s.l))∧Chg N0 w0 w':=by
 have hp:=Hp.start (S:=N0) w0
 have hB:∀b,N0 b→B≤b:=fun _ hh=>hh.elim
 have u1:=Tryz.underlying27
 have hle:=h.le
 refine calls_x (args:= [_,_]) tabOk Tryz.func203 Tryz.ntmps203 Tryz.results203 rfl (Nat.le_of_ble_eq_true rfl) ?_
 ((conv=>whnf);repeat' (((with_reducible refine gen_id ?_);(apply gen_len;exact rfl;exact rfl;assumption))<;>(conv=>whnf)))
 refine lp_inv (α:=Nat) (fun i=> [(0,s.v),(1,u32 next),(8,s.v),(9,i64 s.l.length),(10,i64 i)]) (fun i w=>i≤s.l.length∧(∀k,k < i→sesAt next s.l k=true)∧Hp N0 w0 w []) (fun i=>s.l.length - i) 0 (by (repeat' (first|exact trivial|(refine ⟨rfl,?_⟩)))) ⟨by omega,fun k hk=>absurd hk (by omega),hp⟩ ?_
 clear hp
 rintro i e0 w ⟨hi,hall,hp⟩
 dsimp only at hi hall hp ⊢
 rcases Nat.lt_or_ge i s.l.length with hlt|hge
 ·obtain ⟨b,o,y,hA,hbb,hrow,hyy⟩:=h.has hlt
  have hci:(s.cut 4 i (i+1)).l= [y]:=by
   show (s.l.take (i+1)).drop i= [y]
   rw [List.take_add_one,hyy,List.drop_append,List.drop_of_length_le (by rw [List.length_take];omega)]
   simp [List.length_take,Nat.min_eq_left (Nat.le_of_lt hlt)]
  have hcut:=h.cut (lo:=i) (hi:=i+1) (by omega) (by omega)
  have hr:∀{w:World},Chg N0 w0 w→Calls Tryz.prog 35 #[Sta.v ⟨cfA,0,0,next,Sl.nil,s.cut 4 i (i+1),Sl.nil,Sl.nil⟩] w fun e w'=>e= .returned (.bool (sesO next y))∧Chg N0 w w':=fun {w} hc=>by
   have:=rses_any (next:=next) (hcut.keep hc hB) (Nat.le_trans hBw hc.size) (by rw [hci];simp)
   rw [hci,sesA_one] at this
   simpa using this
  have hsa:=sesAt_is (next:=next) hyy
  have hno:∀{w:World},sesAt next s.l i=false→Chg N0 w0 w→Ending.returned (.bool false)= .returned (.bool (sesA next s.l))∧Chg N0 w0 w:=fun hn hc=>⟨by rw [show sesA next s.l=false from allR_no hlt hn],hc⟩
  have hyes:sesAt next s.l i=true→∀k,k < i+1→sesAt next s.l k=true:=all_step hall
  ((conv=>whnf);repeat' ((first|((with_reducible refine br_id ?_);((with_reducible refine br_dec (fun hx=>?_) (fun hx=>?_))<;>(try (exfalso;first|omega|contradiction))))|((with_reducible refine cn_id ?_);(refine cn rfl ?_))|((with_reducible refine ldn_id ?_);((refine ldn_rowx hp hB ‹_› ‹_› _ rfl ‹_› rfl ?_)))|((with_reducible refine al_id ?_);(refine al_cel hp ?_;clear hp;intro bb w hp))|((with_reducible refine st_id ?_);(apply sta_hs hp;(focus repeat' constructor);exact rfl;exact rfl;clear hp;intro w hp;(try dsimp only [List.set] at hp)))|((with_reducible refine gen_id ?_);((refine gen_ixs rfl rfl ‹_› rfl rfl (by omega) ?_)))|((with_reducible refine cl_id ?_);((refine cl_eq ((afirst_any _)) rfl rfl ?_;rintro e w ⟨rfl,hcc⟩;replace hp:=hp.call0 hcc;refine ⟨_,rfl,?_⟩))))<;>(conv=>whnf)))
  refine dr_autos [4,5] 7 tabOk (by kernel_rfl) (by decide+kernel) ?_
  replace hp:=hp.drew
  cases hq:sesO next y with
  |false=>
   rw [hq,Bool.false_and] at hsa
   rw [hq] at hr
   ((conv=>whnf);repeat' ((first|((with_reducible refine br_id ?_);first|(with_reducible refine br_t ?_)|(with_reducible refine br_f ?_)|(with_reducible refine br_not ?_))|((with_reducible refine ar_id ?_);(refine ar_i64 (by omega) ?_))|((with_reducible refine cn_id ?_);first|(refine cn rfl ?_)|(refine cn (Chg.refl _ _) ?_))|((with_reducible refine ldn_id ?_);(apply lda_hs hp;(focus repeat' constructor);exact rfl))|((with_reducible refine st_id ?_);(apply st_hs hp;(focus repeat' constructor);exact rfl;exact rfl;clear hp;intro w hp;(try dsimp only [List.set] at hp)))|((with_reducible refine gen_id ?_);((refine gen_cutbb rfl el_ses s rfl hle rfl rfl (l:=i) (h:=i+1) rfl rfl (by omega) (by omega) ?_)))|((with_reducible refine dr_id ?_);(refine dr_autot tabOk (by kernel_rfl) (by decide+kernel) ?_;(try replace hp:=hp.drew)))|((with_reducible refine fk_id ?_);(refine fk_mk ?_ ?_))|((with_reducible refine cl_id ?_);((refine cl_eq ((hr hp.chg)) rfl rfl ?_;rintro e w ⟨rfl,hcc⟩;replace hp:=hp.call0 hcc;refine ⟨_,rfl,?_⟩))))<;>(conv=>whnf)))
   all_goals exact ps_val (v':= .bool false) rfl (hno hsa hp.chg)
  |true=>
   rw [hq,Bool.true_and] at hsa
   rw [hq] at hr
   cases i with
   |zero=>
    ((conv=>whnf);repeat' ((first|((with_reducible refine br_id ?_);first|(with_reducible refine br_t ?_)|(with_reducible refine br_f ?_)|(with_reducible refine br_not ?_)|((with_reducible refine br_dec (fun hx=>?_) (fun hx=>?_))<;>(try (exfalso;first|omega|contradiction))))|((with_reducible refine ar_id ?_);(refine ar_i64 (by omega) ?_))|((with_reducible refine cn_id ?_);first|(refine cn rfl ?_)|(refine cn (Chg.refl _ _) ?_))|((with_reducible refine ldn_id ?_);(apply lda_hs hp;(focus repeat' constructor);exact rfl))|((with_reducible refine st_id ?_);(apply st_hs hp;(focus repeat' constructor);exact rfl;exact rfl;clear hp;intro w hp;(try dsimp only [List.set] at hp)))|((with_reducible refine gen_id ?_);((refine gen_cutbb rfl el_ses s rfl hle rfl rfl (l:=0) (h:=0+1) rfl rfl (by omega) (by omega) ?_)))|((with_reducible refine dr_id ?_);(refine dr_autot tabOk (by kernel_rfl) (by decide+kernel) ?_;(try replace hp:=hp.drew)))|((with_reducible refine fk_id ?_);(refine fk_mk ?_ ?_))|((with_reducible refine cl_id ?_);((refine cl_eq ((hr hp.chg)) rfl rfl ?_;rintro e w ⟨rfl,hcc⟩;replace hp:=hp.call0 hcc;refine ⟨_,rfl,?_⟩))))<;>(conv=>whnf)))
    all_goals exact lp_next (0+1) (by show s.l.length - (0+1) < s.l.length - 0;omega) (by (repeat' (first|exact trivial|(refine ⟨rfl,?_⟩)))) ⟨by show 0+1≤_;omega,hyes hsa,hp.tail.tail⟩
   |succ k=>
    obtain ⟨z,hz⟩:∃z,s.l[k]? =some z:=⟨_,List.getElem?_eq_getElem (by omega)⟩
    have haz:ascAt y s.l (k+1)=decide (z.id.toNat < y.id.toNat):=by unfold ascAt;dsimp only;rw [hz]
    by_cases h2:z.id.toNat < y.id.toNat
    ·rw [haz,decide_eq_true h2] at hsa
     ((conv=>whnf);repeat' ((first|((with_reducible refine br_id ?_);first|(with_reducible refine br_t ?_)|(with_reducible refine br_f ?_)|(with_reducible refine br_not ?_)|((with_reducible refine br_dec (fun hx=>?_) (fun hx=>?_))<;>(try (exfalso;first|omega|contradiction))))|((with_reducible refine ar_id ?_);first|((refine ar_n (k) (by omega) (by omega) ?_))|(refine ar_i64 (by omega) ?_))|((with_reducible refine cn_id ?_);first|(refine cn rfl ?_)|(refine cn (Chg.refl _ _) ?_))|((with_reducible refine ld_id ?_);first|((refine ld_row hp hB ‹_› ‹_› _ _ rfl ‹_› (by rfl) ?_))|(apply ld_hs hp;(focus repeat' constructor);exact rfl))|((with_reducible refine ldn_id ?_);(apply lda_hs hp;(focus repeat' constructor);exact rfl))|((with_reducible refine st_id ?_);(apply st_hs hp;(focus repeat' constructor);exact rfl;exact rfl;clear hp;intro w hp;(try dsimp only [List.set] at hp)))|((with_reducible refine gen_id ?_);first|((refine gen_ixs rfl rfl ‹_› rfl rfl (by omega) ?_))|((refine gen_cutbb rfl el_ses s rfl hle rfl rfl (l:=k+1) (h:=k+1+1) rfl rfl (by omega) (by omega) ?_)))|((with_reducible refine dr_id ?_);(refine dr_autot tabOk (by kernel_rfl) (by decide+kernel) ?_;(try replace hp:=hp.drew)))|((with_reducible refine fk_id ?_);(refine fk_mk ?_ ?_))|((with_reducible refine cl_id ?_);((refine cl_eq ((hr hp.chg)) rfl rfl ?_;rintro e w ⟨rfl,hcc⟩;replace hp:=hp.call0 hcc;refine ⟨_,rfl,?_⟩))))<;>(conv=>whnf)))
     all_goals exact lp_next (k+1+1) (by show s.l.length - (k+1+1) < s.l.length - (k+1);omega) (by (repeat' (first|exact trivial|(refine ⟨rfl,?_⟩)))) ⟨by show k+1+1≤_;omega,hyes hsa,hp.tail.tail⟩
    ·rw [haz,decide_eq_false h2] at hsa
     ((conv=>whnf);repeat' ((first|((with_reducible refine br_id ?_);first|(with_reducible refine br_t ?_)|(with_reducible refine br_f ?_)|(with_reducible refine br_not ?_)|((with_reducible refine br_dec (fun hx=>?_) (fun hx=>?_))<;>(try (exfalso;first|omega|contradiction))))|((with_reducible refine ar_id ?_);first|((refine ar_n (k) (by omega) (by omega) ?_))|(refine ar_i64 (by omega) ?_))|((with_reducible refine cn_id ?_);first|(refine cn rfl ?_)|(refine cn (Chg.refl _ _) ?_))|((with_reducible refine ld_id ?_);first|((refine ld_row hp hB ‹_› ‹_› _ _ rfl ‹_› (by rfl) ?_))|(apply ld_hs hp;(focus repeat' constructor);exact rfl))|((with_reducible refine ldn_id ?_);(apply lda_hs hp;(focus repeat' constructor);exact rfl))|((with_reducible refine st_id ?_);(apply st_hs hp;(focus repeat' constructor);exact rfl;exact rfl;clear hp;intro w hp;(try dsimp only [List.set] at hp)))|((with_reducible refine gen_id ?_);first|((refine gen_ixs rfl rfl ‹_› rfl rfl (by omega) ?_))|((refine gen_cutbb rfl el_ses s rfl hle rfl rfl (l:=k+1) (h:=k+1+1) rfl rfl (by omega) (by omega) ?_)))|((with_reducible refine dr_id ?_);(refine dr_autot tabOk (by kernel_rfl) (by decide+kernel) ?_;(try replace hp:=hp.drew)))|((with_reducible refine fk_id ?_);(refine fk_mk ?_ ?_))|((with_reducible refine cl_id ?_);((refine cl_eq ((hr hp.chg)) rfl rfl ?_;rintro e w ⟨rfl,hcc⟩;replace hp:=hp.call0 hcc;refine ⟨_,rfl,?_⟩))))<;>(conv=>whnf)))
     all_goals exact ps_val (v':= .bool false) rfl (hno hsa hp.chg)
 ·have hsS:sesA next s.l=true:=allR_yes fun k hk=>hall k (by omega)
  ((conv=>whnf);repeat' (((with_reducible refine br_id ?_);((with_reducible refine br_dec (fun hx=>?_) (fun hx=>?_))<;>(try (exfalso;first|omega|contradiction))))<;>(conv=>whnf)))
  exact ps_val (v':= .bool true) rfl ⟨by rw [hsS],hp.chg⟩
theorem asess_any {B:Nat} {w0:World} {x:Sta} (hs:StaAt B w0 x) (hBw:B≤w0.heap.size) (hf:FewI x):Calls Tryz.prog 144 #[x.v] w0 fun e w'=>e= .returned (.bool (sesS x.next x.cfg.ses x.ses.l))∧Chg N0 w0 w':=by
 have hp:=Hp.start (S:=N0) w0
 have hB:∀b,N0 b→B≤b:=fun _ hh=>hh.elim
 have u1:=Tryz.underlying27
 have f1:=hf.ses
 have hS:sesS x.next x.cfg.ses x.ses.l=(sesA x.next x.ses.l && decide ((x.ses.l.length:Int)≤x.cfg.ses)):=rfl
 have hr:∀{w:World},Chg N0 w0 w→Calls Tryz.prog 35 #[Sta.v ⟨cfA,0,0,x.next,Sl.nil,x.ses,Sl.nil,Sl.nil⟩] w fun e w'=>e= .returned (.bool (sesA x.next x.ses.l && decide ((x.ses.l.length:Int)≤64)))∧Chg N0 w w':=fun {w} hc=>rses_any (hs.keep hc hB).ses (Nat.le_trans hBw hc.size) f1
 have hm:∀{w:World},Chg N0 w0 w→Calls Tryz.prog 203 #[x.ses.v,u32 x.next] w fun e w'=>e= .returned (.bool (sesA x.next x.ses.l))∧Chg N0 w w':=fun {w} hc=>asome_any x.next (hs.keep hc hB).ses (Nat.le_trans hBw hc.size) f1
 rw [hS]
 obtain ⟨a,ha⟩:∃a,sesA x.next x.ses.l=a:=⟨_,rfl⟩
 rw [ha] at hr hm ⊢
 by_cases h64:(x.ses.l.length:Int)≤64
 ·rw [decide_eq_true h64,Bool.and_true] at hr
  refine calls_x (args:= [_]) tabOk Tryz.func144 Tryz.ntmps144 Tryz.results144 rfl (Nat.le_of_ble_eq_true rfl) ?_
  ((conv=>whnf);repeat' ((first|((with_reducible refine cn_id ?_);(refine cn rfl ?_))|((with_reducible refine al_id ?_);(refine al_cel hp ?_;clear hp;intro bb w hp))|((with_reducible refine st_id ?_);(apply sta_hs hp;(focus repeat' constructor);exact rfl;exact rfl;clear hp;intro w hp;(try dsimp only [List.set] at hp)))|((with_reducible refine cl_id ?_);((refine cl_eq ((afirst_any _)) rfl rfl ?_;rintro e w ⟨rfl,hcc⟩;replace hp:=hp.call0 hcc;refine ⟨_,rfl,?_⟩))))<;>(conv=>whnf)))
  refine dr_autos [2,3] 5 tabOk (by kernel_rfl) (by decide+kernel) ?_
  replace hp:=hp.drew
  ((conv=>whnf);repeat' ((first|((with_reducible refine br_id ?_);first|(with_reducible refine br_t ?_)|(with_reducible refine br_f ?_)|((with_reducible refine br_dec (fun hx=>?_) (fun hx=>?_))<;>(try (exfalso;first|omega|contradiction))))|((with_reducible refine cn_id ?_);first|(refine cn rfl ?_)|(refine cn (Chg.refl _ _) ?_))|((with_reducible refine ld_id ?_);(apply ld_hs hp;(focus repeat' constructor);exact rfl))|((with_reducible refine ldn_id ?_);(apply lda_hs hp;(focus repeat' constructor);exact rfl))|((with_reducible refine st_id ?_);(apply st_hs hp;(focus repeat' constructor);exact rfl;exact rfl;clear hp;intro w hp;(try dsimp only [List.set] at hp)))|((with_reducible refine gen_id ?_);(apply gen_len;exact rfl;exact rfl;assumption))|((with_reducible refine fk_id ?_);(refine fk_mk ?_ ?_))|((with_reducible refine cl_id ?_);((refine cl_eq ((hr hp.chg)) rfl rfl ?_;rintro e w ⟨rfl,hcc⟩;replace hp:=hp.call0 hcc;refine ⟨_,rfl,?_⟩))))<;>(conv=>whnf)))
  all_goals first
   |exact ps_val (v':= .bool false) rfl ⟨by rw [decide_eq_false (by omega),Bool.and_false],hp.chg⟩
   |exact ps_val (v':= .bool a) rfl ⟨by rw [decide_eq_true (by omega),Bool.and_true],hp.chg⟩
   |omega
 ·rw [decide_eq_false h64,Bool.and_false] at hr
  cases a with
  |false=>
   refine calls_x (args:= [_]) tabOk Tryz.func144 Tryz.ntmps144 Tryz.results144 rfl (Nat.le_of_ble_eq_true rfl) ?_
   ((conv=>whnf);repeat' ((first|((with_reducible refine cn_id ?_);(refine cn rfl ?_))|((with_reducible refine al_id ?_);(refine al_cel hp ?_;clear hp;intro bb w hp))|((with_reducible refine st_id ?_);(apply sta_hs hp;(focus repeat' constructor);exact rfl;exact rfl;clear hp;intro w hp;(try dsimp only [List.set] at hp)))|((with_reducible refine cl_id ?_);((refine cl_eq ((afirst_any _)) rfl rfl ?_;rintro e w ⟨rfl,hcc⟩;replace hp:=hp.call0 hcc;refine ⟨_,rfl,?_⟩))))<;>(conv=>whnf)))
   refine dr_autos [2,3] 5 tabOk (by kernel_rfl) (by decide+kernel) ?_
   replace hp:=hp.drew
   ((conv=>whnf);repeat' ((first|((with_reducible refine br_id ?_);first|(with_reducible refine br_t ?_)|(with_reducible refine br_f ?_)|((with_reducible refine br_dec (fun hx=>?_) (fun hx=>?_))<;>(try (exfalso;first|omega|contradiction))))|((with_reducible refine cn_id ?_);first|(refine cn rfl ?_)|(refine cn (Chg.refl _ _) ?_))|((with_reducible refine ld_id ?_);(apply ld_hs hp;(focus repeat' constructor);exact rfl))|((with_reducible refine ldn_id ?_);(apply lda_hs hp;(focus repeat' constructor);exact rfl))|((with_reducible refine st_id ?_);(apply st_hs hp;(focus repeat' constructor);exact rfl;exact rfl;clear hp;intro w hp;(try dsimp only [List.set] at hp)))|((with_reducible refine gen_id ?_);(apply gen_len;exact rfl;exact rfl;assumption))|((with_reducible refine fk_id ?_);(refine fk_mk ?_ ?_))|((with_reducible refine cl_id ?_);first|((refine cl_eq ((hm hp.chg)) rfl rfl ?_;rintro e w ⟨rfl,hcc⟩;replace hp:=hp.call0 hcc;refine ⟨_,rfl,?_⟩))|((refine cl_eq ((hr hp.chg)) rfl rfl ?_;rintro e w ⟨rfl,hcc⟩;replace hp:=hp.call0 hcc;refine ⟨_,rfl,?_⟩))))<;>(conv=>whnf)))
   all_goals first
    |exact ps_val (v':= .bool false) rfl ⟨by rw [Bool.false_and],hp.chg⟩
    |omega
  |true=>
   refine calls_x (args:= [_]) tabOk Tryz.func144 Tryz.ntmps144 Tryz.results144 rfl (Nat.le_of_ble_eq_true rfl) ?_
   ((conv=>whnf);repeat' ((first|((with_reducible refine cn_id ?_);(refine cn rfl ?_))|((with_reducible refine al_id ?_);(refine al_cel hp ?_;clear hp;intro bb w hp))|((with_reducible refine st_id ?_);(apply sta_hs hp;(focus repeat' constructor);exact rfl;exact rfl;clear hp;intro w hp;(try dsimp only [List.set] at hp)))|((with_reducible refine cl_id ?_);((refine cl_eq ((afirst_any _)) rfl rfl ?_;rintro e w ⟨rfl,hcc⟩;replace hp:=hp.call0 hcc;refine ⟨_,rfl,?_⟩))))<;>(conv=>whnf)))
   refine dr_autos [2,3] 5 tabOk (by kernel_rfl) (by decide+kernel) ?_
   replace hp:=hp.drew
   ((conv=>whnf);repeat' ((first|((with_reducible refine br_id ?_);first|(with_reducible refine br_t ?_)|(with_reducible refine br_f ?_)|((with_reducible refine br_dec (fun hx=>?_) (fun hx=>?_))<;>(try (exfalso;first|omega|contradiction))))|((with_reducible refine cn_id ?_);first|(refine cn rfl ?_)|(refine cn (Chg.refl _ _) ?_))|((with_reducible refine ld_id ?_);(apply ld_hs hp;(focus repeat' constructor);exact rfl))|((with_reducible refine st_id ?_);(apply st_hs hp;(focus repeat' constructor);exact rfl;exact rfl;clear hp;intro w hp;(try dsimp only [List.set] at hp)))|((with_reducible refine gen_id ?_);(apply gen_len;exact rfl;exact rfl;assumption))|((with_reducible refine fk_id ?_);(refine fk_mk ?_ ?_))|((with_reducible refine cl_id ?_);((refine cl_eq ((hm hp.chg)) rfl rfl ?_;rintro e w ⟨rfl,hcc⟩;replace hp:=hp.call0 hcc;refine ⟨_,rfl,?_⟩))))<;>(conv=>whnf)))
   all_goals first
    |exact ps_val (v':= .bool false) rfl ⟨by rw [decide_eq_false (by omega),Bool.and_false],hp.chg⟩
    |exact ps_val (v':= .bool true) rfl ⟨by rw [decide_eq_true (by omega),Bool.true_and],hp.chg⟩
    |omega
end Go.Proofs.YteabebmlclgakaaGreat
