/- MImprintBytes12: parts of the proof of ImprintBytes: Read, Read2, ReadC. No condition of their own. -/
import Derived.Test.YtpbapnlnheahnaaGreatDoorMImprintBytes9
import Derived.Test.YtpbapnlnheahnaaGreatDoorMImprintBytes11
set_option linter.unusedSimpArgs false
set_option linter.unusedVariables false
namespace Go.Proofs.YtpbapnlnheahnaaGreatDoor
open Go.RowKit Go.Stop
set_option maxRecDepth 100000
set_option maxHeartbeats 2000000
section
variable {P : Program} {w : World} {ρ : Operand → Value} {o : Oper} {t e : TypeId} {x : Operand}
theorem run_or64 {m n:Nat} (hm:m < 2 ^ 64) (hn:n < 2 ^ 64):(binOp .or t (.int .u64 (m:Int)) (.int .u64 (n:Int))).run P w= .ok (.int .u64 ((m||| n:Nat):Int)) w:=by
 have e:(IntKind.u64.wrap ((BitVec.ofInt 64 (m:Int)||| BitVec.ofInt 64 (n:Int)).toNat:Int))=((m||| n:Nat):Int):=by
  rw [ofInt_u64,ofInt_u64,wrap_u64,BitVec.toNat_or,BitVec.toNat_ofNat,BitVec.toNat_ofNat,Nat.mod_eq_of_lt hm,Nat.mod_eq_of_lt hn,Nat.mod_eq_of_lt (Nat.or_lt_two_pow hm hn)]
 show ((pure (Value.int .u64 _):Sem Value).run P w)=_
 rw [Sem.run_pure,←e]
 rfl
theorem gen_or64 {g:Value→World→Prop} {a b:Operand} {t2:TypeId} (hop:o.op= .binOp .or t a b t2) (m n r:Nat) (hx:ρ a= .int .u64 (m:Int)) (hy:ρ b= .int .u64 (n:Int)) (hm:m < 2 ^ 64) (hn:n < 2 ^ 64) (hr:m||| n=r) (hk:g (.int .u64 (r:Int)) w):Gen P ρ o w g:=by
 subst hr
 exact gen_bin hop (by rw [hx,hy];exact guard_int ..) (by rw [hx,hy];exact run_or64 hm hn) hk
theorem rd_cut3 {g:Value→Prop} {lo hi mx:Operand} (hop:o.op= .slice t x (some lo) (some hi) (some mx)) (ht:P.underlying t=some (.slice e)) {i:TypeInfo} (hi':P.info? e=some i) (hs:i.size=1) {A:Option Addr} {b ofs len cap:Nat} (hx:ρ x= .slice A len cap) (hA:A=some ⟨b,ofs,none⟩)
  (l n:Nat) {kl kh km:IntKind} {zl zh zm:Int} (hl:ρ lo= .int kl zl) (hh:ρ hi= .int kh zh) (hm:ρ mx= .int km zm) (el:zl=l) (eh:zh=(l+n:Nat)) (em:zm=(l+n:Nat)) (hn:1≤n) (hc:l+n≤cap) (hk:g (.slice (some ⟨b,ofs+l,none⟩) n n)):Rd P ρ o w g:=by
 subst el eh em hA
 refine ⟨_,fun w' _=>?_,hk⟩
 have b1:(0:Int)≤((l+n:Nat):Int)∧((l+n:Nat):Int)≤(cap:Int):=by omega
 have b2:(0:Int)≤((l+n:Nat):Int)∧((l+n:Nat):Int)≤((l+n:Nat):Int):=by omega
 have b3:(0:Int)≤(l:Int)∧(l:Int)≤((l+n:Nat):Int):=by omega
 have b4:¬(l+n=l):=by omega
 have b5:l+n - l=n:=by omega
 simp only [execOp,hop,hx,Option.map_some,hl,hh,hm,Instr.sliceAt,Instr.slice,Sem.run_bind,run_underlying ht,Result.andThen_ok,Instr.sliceBounds,Instr.sliceBound,asIntOf,Sem.run_pure,if_pos b1,if_pos b2,if_pos b3,Int.toNat_natCast,Option.isSome_some,if_true,sizeOf,typeInfo,hi',hs]
 simp [hi',b4,b5,add_plain,Sem.run,hs]
 try (intros;omega)
end
def numV (l:List UInt8):Nat:=l.foldl (fun n x=>n*256+x.toNat) 0
theorem numV_lt (l:List UInt8):numV l < 256 ^ l.length:=by
 have key:∀(l:List UInt8) (n:Nat),l.foldl (fun n x=>n*256+x.toNat) n < (n+1)*256 ^ l.length:=by
  intro l
  induction l with
  |nil=>intro n;simp
  |cons x l ih=>
   intro n
   have h1:=ih (n*256+x.toNat)
   have h2:=x.toNat_lt
   rw [List.foldl_cons,List.length_cons,Nat.pow_succ,Nat.mul_comm (256 ^ l.length) 256,←Nat.mul_assoc]
   refine Nat.lt_of_lt_of_le h1 (Nat.mul_le_mul_right _ (by omega))
 have:=key l 0
 simpa [numV] using this
theorem numV_snoc (l:List UInt8) (x:UInt8):numV (l++ [x])=numV l*256+x.toNat:=by simp [numV]
theorem shl_or (n:Nat) (x:UInt8) (h:n < 2 ^ 56):(n*2 ^ 8 % 2 ^ 64)||| x.toNat=n*256+x.toNat:=by
 have hx:=x.toNat_lt
 rw [Nat.mod_eq_of_lt (by omega)]
 have h1:=Nat.shiftLeft_add_eq_or_of_lt (b:=x.toNat) (i:=8) (by omega) n
 rw [Nat.shiftLeft_eq] at h1
 rw [←h1]
abbrev Flt:=Option (Nat×Int×Int)
def badV (f:Flt):Value:=match f with
 |none=>.nilIface
 |some (x,_,_)=>fltI x
def badE (f:Flt):Option Int:=f.map (·.2.2)
def badR (f:Flt):List Res:=match f with
 |none=> []
 |some (x,y,e)=> [cel x 187 #[i64 y,i64 e]]
abbrev rdC (q:Sl UInt8) (p:Nat) (v:Value):Array Value:= #[.bool true,q.v,i64 p,v]
abbrev rdRs (b:Nat) (q:Sl UInt8) (p:Nat) (f:Flt):List Res:=cel b 121 (rdC q p (badV f))::rowR 5 1 u8L q::badR f
theorem rnew_any {B:Nat} {w0:World} {s:Sl UInt8} (h:SlAt B w0 u8L 1 s) (hn:s.l.length≤1000000):Calls Tryz.prog 20 #[s.v] w0 fun r w'=>∃b q,q.l=s.l∧r= .returned (ptr b)∧Made (star (rdRs b q 0 none)) w0 w':=by
 have hp:=Hp.start (S:=N0) w0
 have hB:∀b,N0 b→B≤b:=fun _ hh=>hh.elim
 refine calls_x (args:= [_]) tabOk Tryz.func20 Tryz.ntmps20 Tryz.results20 rfl (Nat.le_of_ble_eq_true rfl) ?_
 ((conv=>whnf);repeat' ((first|((with_reducible apply al_id);refine al_cel hp ?_;clear hp;intro bb w hp)|((with_reducible apply gen_id);first|((refine gen_app0 rfl hp el_u8 rfl s rfl (h.keep hp.chg hB) (fun _ _=>rfl) u8_one (by omega) (by simp only [maxLen];omega) ?_);clear hp;intro A1 c1 w hcc hp)|(apply gen_build;exact rfl;exact rfl)))<;>(conv=>whnf)))
 exact ps_val (v':=ptr bb) rfl ⟨bb,⟨A1,c1,s.l⟩,rfl,rfl,hp.made (.refl _)⟩
theorem rfail_any {w0:World} {b p:Nat} {q:Sl UInt8} {f:Flt} (e:Int) (he:e≠0) (h:(star (rdRs b q p f)).ok w0):Calls Tryz.prog 71 #[ptr b,i64 e] w0 fun r w'=>r= .returned (.tuple #[])∧∃f',badE f'=(badE f).or (some e)∧Mut (star (rdRs b q p f)) (star (rdRs b q p f')) w0 w':=by
 have hp:=Hp.open h
 have hb:(e !=0)=true:=bne_iff_ne.2 he
 cases f with
 |none=>
  refine calls_x (args:= [_,_]) tabOk Tryz.func71 Tryz.ntmps71 Tryz.results71 rfl (Nat.le_of_ble_eq_true rfl) ?_
  ((conv=>whnf);repeat' ((first|((with_reducible apply br_id);first|(with_reducible refine br_1 hb ?_)|with_reducible refine br_t ?_|with_reducible refine br_f ?_|with_reducible refine br_not ?_)|((with_reducible apply cn_id);refine cn rfl ?_)|((with_reducible apply ld_id);apply ld_hs hp;(focus repeat' constructor);exact rfl)|((with_reducible apply al_id);refine al_cel hp ?_;clear hp;intro bb w hp)|((with_reducible apply st_id);apply st_hs hp;(focus repeat' constructor);exact rfl;exact rfl;clear hp;intro w hp;(try dsimp only [List.set] at hp))|((with_reducible apply gen_id);first|(refine gen_bin (v:= .bool true) rfl (eqi_guard0 ..) (by rfl) ?_)|(refine gen_mki rfl rfl (by rfl) ?_)|(apply gen_build;exact rfl;exact rfl))|((with_reducible apply cl_id);(refine cl_eq ((nonr_any b (cell_of_heap (hp.cel_get (j:=0) rfl) rfl))) rfl rfl ?_;rintro e w ⟨rfl,hcc⟩;replace hp:=hp.call0 hcc;refine ⟨_,rfl,?_⟩)))<;>(conv=>whnf)))
  refine ps_val (v':= .tuple #[]) rfl ⟨rfl,some (bb,p,e),rfl,?_⟩
  exact (hp.perm (List.perm_append_singleton _ [_,_]).symm).shut (.refl _)
 |some x=>
  obtain ⟨x,y,e'⟩:=x
  refine calls_x (args:= [_,_]) tabOk Tryz.func71 Tryz.ntmps71 Tryz.results71 rfl (Nat.le_of_ble_eq_true rfl) ?_
  ((conv=>whnf);repeat' ((first|((with_reducible apply br_id);first|with_reducible refine br_t ?_|with_reducible refine br_f ?_|with_reducible refine br_not ?_)|((with_reducible apply ld_id);apply ld_hs hp;(focus repeat' constructor);exact rfl)|((with_reducible apply gen_id);(refine gen_bin (v:= .bool false) rfl (eqi_guardr ..) (by rfl) ?_))|((with_reducible apply cl_id);(refine cl_eq ((nonr_any b (cell_of_heap (hp.cel_get (j:=0) rfl) rfl))) rfl rfl ?_;rintro e w ⟨rfl,hcc⟩;replace hp:=hp.call0 hcc;refine ⟨_,rfl,?_⟩)))<;>(conv=>whnf)))
  exact ps_val (v':= .tuple #[]) rfl ⟨rfl,some (x,y,e'),rfl,hp.shut (.refl _)⟩
theorem rerr_any {w0:World} {b p:Nat} {q:Sl UInt8} {f:Flt} (hf:∀e,badE f=some e→1≤e∧e≤4) (h:(star (rdRs b q p f)).ok w0):Calls Tryz.prog 69 #[ptr b] w0 fun r w'=>r= .returned (i64 ((badE f).getD 0))∧Chg N0 w0 w':=by
 have hp:=Hp.start (S:=N0) w0
 have hp0:=Hp.open h
 have hm:w0.cell? ⟨b,0,none⟩=some (.bool true):=cell_of_heap (hp0.cel_get (j:=0) rfl) rfl
 have hv:w0.cell? ⟨b,3,none⟩=some (badV f):=cell_of_heap (hp0.cel_get (j:=0) rfl) rfl
 have gen_four:∀(ρ:Operand→Value) (o:Oper) (w:World) (g:Value→World→Prop) (x i:Operand) (n:Nat),o.op= .index 181 x i→ρ x= .agg #[i64 1,i64 2,i64 3,i64 4]→ρ i=i64 n→n < 4→g (i64 (n+1)) w→Gen Tryz.prog ρ o w g:=fun ρ o w g x i n ho hx hi hn hk=>by
  refine gen_v (v:=i64 (n+1)) (w':=w) ?_ hk
  simp only [execOp,ho,hx,hi]
  rcases n with _|_|_|_|n
  ·rfl
  ·rfl
  ·rfl
  ·rfl
  ·omega
 cases f with
 |none=>
  refine calls_x (args:= [_]) tabOk Tryz.func69 Tryz.ntmps69 Tryz.results69 rfl (Nat.le_of_ble_eq_true rfl) ?_
  ((conv=>whnf);repeat' ((first|((with_reducible apply br_id);with_reducible refine br_f ?_)|((with_reducible apply gen_id);apply gen_build;exact rfl;exact rfl)|((with_reducible apply cl_id);(refine cl_eq ((nonr_any b (hp.chg.cell0 hm))) rfl rfl ?_;rintro e w ⟨rfl,hcc⟩;replace hp:=hp.call0 hcc;refine ⟨_,rfl,?_⟩)))<;>(conv=>whnf)))
  refine lp_inv (α:=Nat) (fun i=> [(0,ptr b),(8, .agg #[i64 1,i64 2,i64 3,i64 4]),(9,i64 i)]) (fun i w=>i≤4∧Hp N0 w0 w []) (fun i=>4 - i) 0 (by (repeat' (first|exact trivial|(refine ⟨rfl,?_⟩)))) ⟨by omega,hp⟩ ?_
  clear hp
  rintro i e0 w ⟨hi,hp⟩
  rcases Nat.lt_or_ge i 4 with hlt|hge
  ·((conv=>whnf);repeat' ((first|((with_reducible apply br_id);first|with_reducible refine br_f ?_|((with_reducible refine br_dec (fun hx=>?_) (fun hx=>?_))<;>(try (exfalso;first|omega|contradiction))))|((with_reducible apply ar_id);refine ar_i64 (by omega) ?_)|((with_reducible apply ld_id);(refine ld_of (hp.chg.cell0 hv) ?_))|((with_reducible apply gen_id);first|(refine gen_four _ _ _ _ _ _ i rfl rfl rfl hlt ?_)|(refine gen_mki rfl rfl (by rfl) ?_))|((with_reducible apply cl_id);(refine cl_eq ((eisn_any)) rfl rfl ?_;rintro e w ⟨rfl,hcc⟩;replace hp:=hp.call0 hcc;refine ⟨_,rfl,?_⟩)))<;>(conv=>whnf)))
   exact lp_next (i+1) (by omega) (by (repeat' (first|exact trivial|(refine ⟨rfl,?_⟩)))) ⟨by omega,hp⟩
  ·((conv=>whnf);repeat' ((first|((with_reducible apply br_id);first|with_reducible refine br_f ?_|((with_reducible refine br_dec (fun hx=>?_) (fun hx=>?_))<;>(try (exfalso;first|omega|contradiction))))|((with_reducible apply ld_id);(refine ld_of (hp.chg.cell0 hv) ?_))|((with_reducible apply al_id);refine al_cel hp ?_;clear hp;intro bb w hp)|((with_reducible apply gen_id);(refine gen_mki rfl rfl (by rfl) ?_))|((with_reducible apply cl_id);(refine cl_eq ((eas_any)) rfl rfl ?_;rintro e w ⟨rfl,hcc⟩;replace hp:=hp.call0 hcc;refine ⟨_,rfl,?_⟩)))<;>(conv=>whnf)))
   exact ps_val (v':=i64 0) rfl ⟨rfl,hp.chg⟩
 |some x=>
  obtain ⟨x,y,e⟩:=x
  obtain ⟨he1,he2⟩:=hf e rfl
  have hc:w0.cell? ⟨x,1,none⟩=some (i64 e):=cell_of_heap (hp0.cel_get (j:=2) rfl) rfl
  refine calls_x (args:= [_]) tabOk Tryz.func69 Tryz.ntmps69 Tryz.results69 rfl (Nat.le_of_ble_eq_true rfl) ?_
  ((conv=>whnf);repeat' ((first|((with_reducible apply br_id);with_reducible refine br_f ?_)|((with_reducible apply gen_id);apply gen_build;exact rfl;exact rfl)|((with_reducible apply cl_id);(refine cl_eq ((nonr_any b (hp.chg.cell0 hm))) rfl rfl ?_;rintro e w ⟨rfl,hcc⟩;replace hp:=hp.call0 hcc;refine ⟨_,rfl,?_⟩)))<;>(conv=>whnf)))
  refine lp_inv (α:=Nat) (fun i=> [(0,ptr b),(8, .agg #[i64 1,i64 2,i64 3,i64 4]),(9,i64 i)]) (fun i w=>(i:Int) < e∧Hp N0 w0 w []) (fun i=>4 - i) 0 (by (repeat' (first|exact trivial|(refine ⟨rfl,?_⟩)))) ⟨by omega,hp⟩ ?_
  clear hp
  rintro i e0 w ⟨hi,hp⟩
  have hlt:i < 4:=by omega
  ((conv=>whnf);repeat' ((first|((with_reducible apply br_id);first|((with_reducible refine br_dec (fun hx=>?_) (fun hx=>?_))<;>(try (exfalso;first|omega|contradiction)))|((with_reducible refine br_eq (fun hx=>?_) (fun hx=>?_))<;>(try (exfalso;first|omega|contradiction))))|((with_reducible apply ar_id);refine ar_i64 (by omega) ?_)|((with_reducible apply ld_id);(refine ld_of (hp.chg.cell0 hv) ?_))|((with_reducible apply gen_id);first|(refine gen_four _ _ _ _ _ _ i rfl rfl rfl hlt ?_)|(refine gen_mki rfl rfl (by rfl) ?_))|((with_reducible apply cl_id);(refine cl_eq ((eis_any (hp.chg.cell0 hc))) rfl rfl ?_;rintro e w ⟨rfl,hcc⟩;replace hp:=hp.call0 hcc;refine ⟨_,rfl,?_⟩)))<;>(conv=>whnf)))
  ·exact ps_val (v':=i64 (i+1)) rfl ⟨by rw [←hx];rfl,hp.chg⟩
  ·exact lp_next (i+1) (by omega) (by (repeat' (first|exact trivial|(refine ⟨rfl,?_⟩)))) ⟨by omega,hp⟩
def rdTake (l:List UInt8) (p:Nat) (f:Option Int) (n:Nat):List UInt8×Nat×Option Int:=
 if f=none∧p+n≤l.length then ((l.drop p).take n,p+n,none) else ([],p,f.or (some 2))
theorem rdTake_yes {l:List UInt8} {p n:Nat} (h:p+n≤l.length):rdTake l p none n=((l.drop p).take n,p+n,none):=if_pos ⟨rfl,h⟩
theorem rdTake_bad {l:List UInt8} {p n:Nat} {e:Int}:rdTake l p (some e) n=([],p,some e):=if_neg (by simp)
theorem rdTake_short {l:List UInt8} {p n:Nat} (h:l.length < p+n):rdTake l p none n=([],p,some 2):=if_neg (by simp;omega)
theorem rtake_any {w0:World} {b p:Nat} {q:Sl UInt8} {f:Flt} (n:Nat) (hn:n≤1000000) (hf:f=none→1≤n) (hp0:p≤q.l.length) (hq:q.l.length≤1000000) (h:(star (rdRs b q p f)).ok w0):Calls Tryz.prog 115 #[ptr b,i64 n, .bool true] w0 fun r w'=>
  ∃(s:Sl UInt8) (f':Flt),s.l=(rdTake q.l p (badE f) n).1∧badE f'=(rdTake q.l p (badE f) n).2.2∧r= .returned s.v∧SlAt w'.heap.size w' u8L 1 s∧Mut (star (rdRs b q p f)) (star (rdRs b q (rdTake q.l p (badE f) n).2.1 f')) w0 w':=by
 have hp:=Hp.open h
 have u2:=Tryz.underlying34
 cases f with
 |some x=>
  obtain ⟨x,y,e⟩:=x
  refine calls_x (args:= [_,_,_]) tabOk Tryz.func115 Tryz.ntmps115 Tryz.results115 rfl (Nat.le_of_ble_eq_true rfl) ?_
  ((conv=>whnf);repeat' ((first|((with_reducible apply br_id);first|with_reducible refine br_t ?_|with_reducible refine br_f ?_)|((with_reducible apply ld_id);apply ld_hs hp;(focus repeat' constructor);exact rfl)|((with_reducible apply gen_id);(refine gen_bin (v:= .bool true) rfl (eqi_guardr ..) (by rfl) ?_))|((with_reducible apply cl_id);(refine cl_eq ((nonr_any b (cell_of_heap (hp.cel_get (j:=0) rfl) rfl))) rfl rfl ?_;rintro e w ⟨rfl,hcc⟩;replace hp:=hp.call0 hcc;refine ⟨_,rfl,?_⟩)))<;>(conv=>whnf)))
  exact ps_val (v':=(Sl.nil (α:=UInt8)).v) rfl ⟨Sl.nil,some (x,y,e),rfl,rfl,rfl, .none_,hp.shut (.refl _)⟩
 |none=>
  have hn1:=hf rfl
  rcases Nat.lt_or_ge q.l.length (p+n) with hlt|hge
  ·refine calls_x (args:= [_,_,_]) tabOk Tryz.func115 Tryz.ntmps115 Tryz.results115 rfl (Nat.le_of_ble_eq_true rfl) ?_
   ((conv=>whnf);repeat' ((first|((with_reducible apply br_id);first|with_reducible refine br_t ?_|with_reducible refine br_f ?_|with_reducible refine br_not ?_|((with_reducible refine br_dec (fun hx=>?_) (fun hx=>?_))<;>(try (exfalso;first|omega|contradiction))))|((with_reducible apply ar_id);refine ar_i64 (by omega) ?_)|((with_reducible apply ld_id);apply ld_hs hp;(focus repeat' constructor);exact rfl)|((with_reducible apply gen_id);(refine gen_bin (v:= .bool false) rfl (eqi_guard0 ..) (by rfl) ?_))|((with_reducible apply dr_id);refine dr_auto tabOk (by kernel_rfl) (by decide+kernel) ?_;(try replace hp:=hp.drew))|((with_reducible apply cl_id);(refine cl_eq ((nonr_any b (cell_of_heap (hp.cel_get (j:=0) rfl) rfl))) rfl rfl ?_;rintro e w ⟨rfl,hcc⟩;replace hp:=hp.call0 hcc;refine ⟨_,rfl,?_⟩))|((with_reducible apply rd_id);apply rd_len;exact rfl;exact rfl;assumption))<;>(conv=>whnf)))
   refine cl_of (rfail_any 2 (by decide) (star_ok.2 ⟨hp.ok,hp.sep⟩)) ?_
   rintro r w ⟨rfl,f',hf',hm⟩
   replace hp:=(hp.fold 2).via (j:=0) rfl hm
   refine ⟨_,rfl,?_⟩
   have e1:rdTake q.l p (badE none) n=([],p,some 2):=rdTake_short hlt
   rw [e1]
   ((conv=>whnf))
   exact ps_val (v':=(Sl.nil (α:=UInt8)).v) rfl ⟨Sl.nil,f',rfl,hf',rfl, .none_,hp.shut1 (j:=0) rfl⟩
  ·obtain ⟨i8,hi8,hs8⟩:∃i,Tryz.prog.info? 5=some i∧i.size=1:=by
    obtain ⟨_,i,_,h1,_,h2,_⟩:=el_u8
    exact ⟨i,h1,h2⟩
   obtain ⟨bq,oq,x,hA,hbq,hrow,hxx⟩:=(hp.row (j:=1) rfl).has (i:=p) (by omega)
   refine calls_x (args:= [_,_,_]) tabOk Tryz.func115 Tryz.ntmps115 Tryz.results115 rfl (Nat.le_of_ble_eq_true rfl) ?_
   have hqc:q.l.length≤q.c:=(hp.row (j:=1) rfl).le
   ((conv=>whnf);repeat' ((first|((with_reducible apply br_id);first|with_reducible refine br_t ?_|with_reducible refine br_f ?_|with_reducible refine br_not ?_|((with_reducible refine br_dec (fun hx=>?_) (fun hx=>?_))<;>(try (exfalso;first|omega|contradiction))))|((with_reducible apply ar_id);first|(refine ar_n (p+n) (by omega) (by omega) ?_)|refine ar_i64 (by omega) ?_)|((with_reducible apply cn_id);refine cn rfl ?_)|((with_reducible apply ld_id);apply ld_hs hp;(focus repeat' constructor);exact rfl)|((with_reducible apply st_id);apply st_hs hp;(focus repeat' constructor);exact rfl;exact rfl;clear hp;intro w hp;(try dsimp only [List.set] at hp))|((with_reducible apply gen_id);(refine gen_bin (v:= .bool false) rfl (eqi_guard0 ..) (by rfl) ?_))|((with_reducible apply dr_id);refine dr_auto tabOk (by kernel_rfl) (by decide+kernel) ?_;(try replace hp:=hp.drew))|((with_reducible apply cl_id);(refine cl_eq ((nonr_any b (cell_of_heap (hp.cel_get (j:=0) rfl) rfl))) rfl rfl ?_;rintro e w ⟨rfl,hcc⟩;replace hp:=hp.call0 hcc;refine ⟨_,rfl,?_⟩))|((with_reducible apply rd_id);first|(refine rd_cut3 rfl u2 hi8 hs8 rfl hA p n rfl rfl rfl rfl (by omega) (by omega) hn1 (by omega) ?_)|(apply rd_len;exact rfl;exact rfl;assumption)))<;>(conv=>whnf)))
   have e1:rdTake q.l p (badE none) n=((q.l.drop p).take n,p+n,none):=rdTake_yes hge
   rw [e1]
   have hsl:((q.l.drop p).take n).length=n:=by rw [List.length_take,List.length_drop];omega
   replace hp:Hp (star (rdRs b q p none)).dom w0 w (rdRs b q (p+n) none):=hp
   have hat:SlAt w.heap.size w u8L 1 (⟨some ⟨bq,oq+p,none⟩,n,(q.l.drop p).take n⟩:Sl UInt8):=by
    have hr:=hp.row (j:=1) rfl
    obtain ⟨b',o',h1,h2,h3⟩:=hr.row (fun e=>by rw [e] at hge;simp at hge;omega)
    rw [hA] at h1
    cases h1
    refine ⟨by show ((q.l.drop p).take n).length≤n;omega,by simp only [maxLen];omega,(fun e=>by cases e),fun _=>⟨bq,oq+p,rfl,h2,fun i x hi j v hj=>?_⟩⟩
    have hin:i < n:=by
     have h5:i < ((q.l.drop p).take n).length:=(List.getElem?_eq_some_iff.1 hi).1
     omega
    have hi2:((q.l.drop p).take n)[i]? =some x:=hi
    rw [List.getElem?_take_of_lt hin,List.getElem?_drop] at hi2
    have h4:=h3 (p+i) x hi2 j v hj
    rwa [show oq+(p+i)*1+j=oq+p+i*1+j by omega] at h4
   exact ps_val (v':= .slice (some ⟨bq,oq+p,none⟩) n n) rfl ⟨⟨some ⟨bq,oq+p,none⟩,n,(q.l.drop p).take n⟩,none,rfl,rfl,by rw [Sl.v,hsl],hat,hp.shut (.refl _)⟩
section
variable {w0 : World} {b p : Nat} {q : Sl UInt8} {f : Flt}
theorem rdTake_le {l:List UInt8} {p:Nat} {f:Option Int} {n:Nat} (h:p≤l.length):(rdTake l p f n).2.1≤l.length∧(rdTake l p f n).1.length≤n:=by
 unfold rdTake
 split
 ·rename_i hh
  exact ⟨hh.2,by show ((l.drop p).take n).length≤n;rw [List.length_take];omega⟩
 ·exact ⟨h,by simp⟩
theorem rd_cells {w:World} (h:(star (rdRs b q p f)).ok w):w.cell? ⟨b,0,none⟩=some (.bool true)∧w.cell? ⟨b,1,none⟩=some q.v∧w.cell? ⟨b,2,none⟩=some (i64 p)∧w.cell? ⟨b,3,none⟩=some (badV f):=by
 have hp:=Hp.open h
 have hc:=hp.cel_get (j:=0) rfl
 exact ⟨cell_of_heap hc rfl,cell_of_heap hc rfl,cell_of_heap hc rfl,cell_of_heap hc rfl⟩
theorem rnum_any (n:Nat) (hn:1≤n∧n≤8) (hp0:p≤q.l.length) (hq:q.l.length≤1000000) (h:(star (rdRs b q p f)).ok w0):Calls Tryz.prog 64 #[ptr b,i64 n] w0 fun r w'=>
  ∃f':Flt,badE f'=(rdTake q.l p (badE f) n).2.2∧r= .returned (.int .u64 (numV (rdTake q.l p (badE f) n).1:Nat))∧Mut (star (rdRs b q p f)) (star (rdRs b q (rdTake q.l p (badE f) n).2.1 f')) w0 w':=by
 have hp:=Hp.start1 h
 have hle:=(rdTake_le (f:=badE f) (n:=n) hp0).2
 have u2:=Tryz.underlying34
 refine calls_x (args:= [_,_]) tabOk Tryz.func64 Tryz.ntmps64 Tryz.results64 rfl (Nat.le_of_ble_eq_true rfl) ?_
 ((conv=>whnf);repeat' (((with_reducible apply br_id);first|with_reducible refine br_t ?_|((with_reducible refine br_dec (fun hx=>?_) (fun hx=>?_))<;>(try (exfalso;first|omega|contradiction))))<;>(conv=>whnf)))
 refine cl_eq (rtake_any n (by omega) (fun _=>by omega) hp0 hq (hp.get (j:=0) rfl)) rfl (by rw [←decide_eq_true (p:=(n:Int)≤8) (by omega)]) ?_
 rintro r w ⟨s,f',hs,hf',rfl,hat,hm⟩
 replace hp:=hp.via (j:=0) rfl hm
 dsimp only [List.set] at hp
 clear hm
 refine ⟨_,rfl,?_⟩
 rw [←hs] at hle
 ((conv=>whnf);repeat' (((with_reducible apply gen_id);apply gen_len;exact rfl;exact rfl;assumption)<;>(conv=>whnf)))
 have hp2:=Hp.start (S:=N0) w
 obtain ⟨w1,hw1⟩:∃w1,w1=w:=⟨_,rfl⟩
 have hB:∀b,N0 b→w1.heap.size≤b:=fun _ hh=>hh.elim
 rw [←hw1] at hp hat
 have hq0:=hp
 clear hp
 have hp3:Hp N0 w1 w []:=by rw [hw1];exact Hp.start _
 clear hp2 hw1
 refine lp_inv (α:=Nat) (fun i=> [(16,s.v),(17,i64 s.l.length),(18,i64 i),(5, .int .u64 (numV (s.l.take i):Nat))]) (fun i w=>i≤s.l.length∧Hp N0 w1 w []) (fun i=>s.l.length - i) 0 (by (repeat' (first|exact trivial|(refine ⟨rfl,?_⟩)))) ⟨by omega,hp3⟩ ?_
 clear hp3
 rintro i e0 w ⟨hi,hp'⟩
 rcases Nat.lt_or_ge i s.l.length with hlt|hge
 ·obtain ⟨bA,oA,x,hA,hbA,hrow,hxx⟩:=hat.has hlt
  have h56:numV (s.l.take i) < 2 ^ 56:=by
   have h1:=numV_lt (s.l.take i)
   have h2:(s.l.take i).length≤7:=by rw [List.length_take];omega
   have h3:256 ^ (s.l.take i).length≤256 ^ 7:=Nat.pow_le_pow_right (by omega) h2
   have h4:256 ^ 7=2 ^ 56:=by decide
   omega
  have hx8:=x.toNat_lt
  have hsn:numV (s.l.take (i+1))=numV (s.l.take i)*256+x.toNat:=by rw [List.take_add_one,hxx];exact numV_snoc _ _
  obtain ⟨N,hN⟩:∃N,numV (s.l.take i)=N:=⟨_,rfl⟩
  rw [hN] at h56 hsn ⊢
  have hp:=hp'
  clear hp'
  ((conv=>whnf);repeat' ((first|((with_reducible apply br_id);(with_reducible refine br_dec (fun hx=>?_) (fun hx=>?_))<;>(try (exfalso;first|omega|contradiction)))|((with_reducible apply ar_id);first|refine ar_i64 (by omega) ?_|refine ar_u64 (by omega) ?_)|((with_reducible apply ld_id);(refine ld_row0 hp hB ‹_› ‹_› _ rfl ‹_› (by rfl) ?_))|((with_reducible apply gen_id);first|(refine gen_ixs rfl rfl ‹_› rfl rfl (by omega) ?_)|(refine gen_shl64 rfl N 8 rfl rfl rfl (by omega) ?_)|(refine gen_or64 rfl _ _ (N*256+x.toNat) rfl rfl (Nat.mod_lt _ (by decide)) (by omega) (shl_or N x h56) ?_)))<;>(conv=>whnf)))
  refine lp_next (i+1) (by omega) (by rw [hsn];(repeat' (first|exact trivial|(refine ⟨rfl,?_⟩)))) ⟨by omega,hp⟩
 ·have hp:=hp'
  clear hp'
  ((conv=>whnf);repeat' (((with_reducible apply br_id);(with_reducible refine br_dec (fun hx=>?_) (fun hx=>?_))<;>(try (exfalso;first|omega|contradiction)))<;>(conv=>whnf)))
  rw [List.take_of_length_le hge]
  exact ps_val (v':= .int .u64 (numV s.l:Nat)) rfl ⟨f',hf',by rw [hs],(hq0.call0 hp.chg).shut1 (j:=0) rfl⟩
theorem rdone_any (hf:∀e,badE f=some e→1≤e∧e≤4) (hp0:p≤q.l.length) (hq:q.l.length≤1000000) (h:(star (rdRs b q p f)).ok w0):Calls Tryz.prog 22 #[ptr b] w0 fun r w'=>
  r= .returned (i64 ((badE f).getD (if p=q.l.length then 0 else 3)))∧Chg N0 w0 w':=by
 have hp:=Hp.start (S:=N0) w0
 obtain ⟨h0,h1,h2,h3⟩:=rd_cells h
 have u2:=Tryz.underlying34
 have hst:∀{w:World},Chg N0 w0 w→(star (rdRs b q p f)).ok w:=fun hc=>(star (rdRs b q p f)).keep0 h hc
 have hleft:∀{w:World},Chg N0 w0 w→Calls Tryz.prog 81 #[ptr b] w fun r w'=>r= .returned (i64 ((q.l.length - p:Nat):Int))∧Chg N0 w w':=fun {w} hc=>by
  have g0:=hc.cell0 h0
  have g1:=hc.cell0 h1
  have g2:=hc.cell0 h2
  have hp:=Hp.start (S:=N0) w
  clear h h0 h1 h2 h3 hst hc
  refine calls_x (args:= [_]) tabOk Tryz.func81 Tryz.ntmps81 Tryz.results81 rfl (Nat.le_of_ble_eq_true rfl) ?_
  ((conv=>whnf);repeat' ((first|((with_reducible apply br_id);with_reducible refine br_f ?_)|((with_reducible apply ar_id);(refine ar_n (q.l.length - p) (by omega) (by omega) ?_))|((with_reducible apply ld_id);first|(refine ld_of (hp.chg.cell0 g1) ?_)|(refine ld_of (hp.chg.cell0 g2) ?_))|((with_reducible apply dr_id);refine dr_auto tabOk (by kernel_rfl) (by decide+kernel) ?_;(try replace hp:=hp.drew))|((with_reducible apply cl_id);(refine cl_eq ((nonr_any b (hp.chg.cell0 g0))) rfl rfl ?_;rintro e w ⟨rfl,hcc⟩;replace hp:=hp.call0 hcc;refine ⟨_,rfl,?_⟩))|((with_reducible apply rd_id);apply rd_len;exact rfl;exact rfl;assumption))<;>(conv=>whnf)))
  exact ps_val (v':=i64 ((q.l.length - p:Nat):Int)) rfl ⟨rfl,hp.chg⟩
 have hre:∀{w:World} (e:Int),(badE f).getD 0=e→Chg N0 w0 w→Calls Tryz.prog 69 #[ptr b] w fun r w'=>r= .returned (i64 e)∧Chg N0 w w':=fun e he hc=>he▸rerr_any hf (hst hc)
 cases hb:badE f with
 |some e=>
  obtain ⟨he1,he2⟩:=hf e hb
  refine calls_x (args:= [_]) tabOk Tryz.func22 Tryz.ntmps22 Tryz.results22 rfl (Nat.le_of_ble_eq_true rfl) ?_
  ((conv=>whnf);repeat' ((first|((with_reducible apply br_id);first|with_reducible refine br_t ?_|((with_reducible refine br_ne (fun hx=>?_) (fun hx=>?_))<;>(try (exfalso;first|omega|contradiction))))|((with_reducible apply cl_id);(refine cl_eq ((hre e (by rw [hb];rfl) hp.chg)) rfl rfl ?_;rintro e w ⟨rfl,hcc⟩;replace hp:=hp.call0 hcc;refine ⟨_,rfl,?_⟩)))<;>(conv=>whnf)))
  exact ps_val (v':=i64 e) rfl ⟨rfl,hp.chg⟩
 |none=>
  refine calls_x (args:= [_]) tabOk Tryz.func22 Tryz.ntmps22 Tryz.results22 rfl (Nat.le_of_ble_eq_true rfl) ?_
  ((conv=>whnf);repeat' ((first|((with_reducible apply br_id);first|with_reducible refine br_f ?_|((with_reducible refine br_eq (fun hx=>?_) (fun hx=>?_))<;>(try (exfalso;first|omega|contradiction)))|((with_reducible refine br_ne (fun hx=>?_) (fun hx=>?_))<;>(try (exfalso;first|omega|contradiction))))|((with_reducible apply cl_id);first|((refine cl_eq ((hre 0 (by rw [hb];rfl) hp.chg)) rfl rfl ?_;rintro e w ⟨rfl,hcc⟩;replace hp:=hp.call0 hcc;refine ⟨_,rfl,?_⟩))|((refine cl_eq ((hleft hp.chg)) rfl rfl ?_;rintro e w ⟨rfl,hcc⟩;replace hp:=hp.call0 hcc;refine ⟨_,rfl,?_⟩))))<;>(conv=>whnf)))
  ·exact ps_val (v':=i64 0) rfl ⟨by rw [if_pos (by omega)];rfl,hp.chg⟩
  ·exact ps_val (v':=i64 3) rfl ⟨by rw [if_neg (by omega)];rfl,hp.chg⟩
end
section
variable {w0 : World} {b p : Nat} {q : Sl UInt8} {f : Flt}
theorem rbytes_any (n:Nat) (hn:n≤1000000) (hf:f=none→1≤n) (hp0:p≤q.l.length) (hq:q.l.length≤1000000) (h:(star (rdRs b q p f)).ok w0):Calls Tryz.prog 66 #[ptr b,i64 n] w0 fun r w'=>
  ∃(s:Sl UInt8) (f':Flt),s.l=(rdTake q.l p (badE f) n).1∧badE f'=(rdTake q.l p (badE f) n).2.2∧r= .returned s.v∧Mut (star (rdRs b q p f)) (star (rowR 5 1 u8L s::rdRs b q (rdTake q.l p (badE f) n).2.1 f')) w0 w':=by
 have hp:=Hp.start1 h
 have hle:=(rdTake_le (f:=badE f) (n:=n) hp0).2
 refine calls_x (args:= [_,_]) tabOk Tryz.func66 Tryz.ntmps66 Tryz.results66 rfl (Nat.le_of_ble_eq_true rfl) ?_
 ((conv=>whnf))
 refine cl_of (rtake_any n hn hf hp0 hq (hp.get (j:=0) rfl)) ?_
 rintro r w ⟨s,f',hs,hf',rfl,hat,hm⟩
 replace hp:=hp.via (j:=0) rfl hm
 dsimp only [List.set] at hp
 clear hm
 refine ⟨_,rfl,?_⟩
 have hsl:s.l.length≤1000000:=by rw [hs];omega
 ((conv=>whnf);repeat' (((with_reducible apply gen_id);(refine gen_app0 rfl hp el_u8 rfl s rfl hat (fun _ _=>rfl) u8_one (by omega) (by simp only [maxLen];omega) ?_);clear hp;intro A1 c1 w hcc hp)<;>(conv=>whnf)))
 have h2:=((hp.perm (.swap ..)).unfold).perm (List.perm_append_singleton _ _)
 exact ps_val (v':= .slice A1 s.l.length c1) rfl ⟨⟨A1,c1,s.l⟩,f',hs,hf',rfl,h2.shut (.refl _)⟩
def rdCnt (l:List UInt8) (p:Nat) (f:Option Int) (most:Nat):Nat×Nat×Option Int:=
 let t:=rdTake l p f 1
 match t.2.2 with
 |some e=>(0,t.2.1,some e)
 |none=>if 1≤numV t.1∧numV t.1≤most then (numV t.1,t.2.1,none) else (0,t.2.1,some 4)
theorem rcount_any (most:Nat) (hm1:most≤1000000) (hp0:p≤q.l.length) (hq:q.l.length≤1000000) (h:(star (rdRs b q p f)).ok w0):Calls Tryz.prog 121 #[ptr b,i64 most] w0 fun r w'=>
  ∃f':Flt,badE f'=(rdCnt q.l p (badE f) most).2.2∧r= .returned (i64 (rdCnt q.l p (badE f) most).1)∧Mut (star (rdRs b q p f)) (star (rdRs b q (rdCnt q.l p (badE f) most).2.1 f')) w0 w':=by
 have hp:=Hp.start1 h
 have hcount:Calls Tryz.prog 120 #[ptr b,i64 1,i64 most] w0 fun r w'=>
   ∃(f':Flt) (c:Nat),(if c=0 then (badE f').or (some 4) else badE f')=(rdCnt q.l p (badE f) most).2.2∧c=(rdCnt q.l p (badE f) most).1∧r= .returned (i64 c)∧Mut (star (rdRs b q p f)) (star (rdRs b q (rdCnt q.l p (badE f) most).2.1 f')) w0 w':=by
  refine calls_x (args:= [_,_,_]) tabOk Tryz.func120 Tryz.ntmps120 Tryz.results120 rfl (Nat.le_of_ble_eq_true rfl) ?_
  ((conv=>whnf))
  refine cl_of (rnum_any 1 (by omega) hp0 hq (hp.get (j:=0) rfl)) ?_
  rintro r w ⟨f1,hf1,rfl,hm⟩
  replace hp:=hp.via (j:=0) rfl hm
  dsimp only [List.set] at hp
  clear hm
  refine ⟨_,rfl,?_⟩
  have hlt:=numV_lt (rdTake q.l p (badE f) 1).1
  have hle:=(rdTake_le (f:=badE f) (n:=1) hp0).2
  have h256:numV (rdTake q.l p (badE f) 1).1 < 256:=by
   refine Nat.lt_of_lt_of_le hlt ?_
   have:256 ^ (rdTake q.l p (badE f) 1).1.length≤256 ^ 1:=Nat.pow_le_pow_right (by omega) hle
   simpa using this
  obtain ⟨N,hN⟩:∃N,numV (rdTake q.l p (badE f) 1).1=N:=⟨_,rfl⟩
  obtain ⟨p',hp'⟩:∃p',(rdTake q.l p (badE f) 1).2.1=p':=⟨_,rfl⟩
  have hcnt:rdCnt q.l p (badE f) most=match badE f1 with
   |some e=>(0,p',some e)
   |none=>if 1≤N∧N≤most then (N,p',none) else (0,p',some 4):=by
   unfold rdCnt
   rw [hf1,←hN,←hp']
  rw [hN] at h256 ⊢
  rw [hp'] at hp
  rw [hcnt]
  clear hcnt hlt hle
  ((conv=>whnf);repeat' ((first|((with_reducible apply br_id);first|with_reducible refine br_f ?_|((with_reducible refine br_dec (fun hx=>?_) (fun hx=>?_))<;>(try (exfalso;first|omega|contradiction))))|((with_reducible apply ar_id);refine ar_u64 (by omega) ?_))<;>(conv=>whnf)))
  ·refine cl_of (rfail_any 4 (by decide) (hp.get (j:=0) rfl)) ?_
   rintro r w ⟨rfl,f2,hf2,hm⟩
   replace hp:=hp.via (j:=0) rfl hm
   dsimp only [List.set] at hp
   clear hm
   refine ⟨_,rfl,?_⟩
   obtain ⟨h0,_,_,h3⟩:=rd_cells (hp.get (j:=0) rfl)
   have hz:=Hp.start (S:=N0) w
   obtain ⟨w1,hw1⟩:∃w1,w1=w:=⟨_,rfl⟩
   rw [←hw1] at hp h0 h3
   have hq0:=hp
   clear hp hz
   have hp:Hp N0 w1 w []:=by rw [hw1];exact Hp.start _
   clear hw1
   cases f2 with
   |none=>cases hb:badE f1<;>rw [hb] at hf2<;>cases hf2
   |some y=>
    obtain ⟨y1,y2,y3⟩:=y
    ((conv=>whnf);repeat' ((first|((with_reducible apply br_id);first|with_reducible refine br_t ?_|with_reducible refine br_f ?_)|((with_reducible apply ld_id);(refine ld_of (hp.chg.cell0 h3) ?_))|((with_reducible apply gen_id);(refine gen_bin (v:= .bool true) rfl (eqi_guardr ..) (by rfl) ?_))|((with_reducible apply cl_id);(refine cl_eq ((nonr_any b (hp.chg.cell0 h0))) rfl rfl ?_;rintro e w ⟨rfl,hcc⟩;replace hp:=hp.call0 hcc;refine ⟨_,rfl,?_⟩)))<;>(conv=>whnf)))
    have hD:(match badE f1 with
     |some e=>(0,p',some e)
     |none=>if 1≤N∧N≤most then (N,p',none) else (0,p',some 4))=(0,p',(badE (some (y1,y2,y3)))):=by
     rw [hf2]
     cases badE f1 with
     |some e=>rfl
     |none=>exact if_neg (by omega)
    rw [hD]
    exact ps_val (v':=i64 0) rfl ⟨some (y1,y2,y3),0,rfl,rfl,rfl,(hq0.call0 hp.chg).shut1 (j:=0) rfl⟩
  ·obtain ⟨h0,_,_,h3⟩:=rd_cells (hp.get (j:=0) rfl)
   obtain ⟨w1,hw1⟩:∃w1,w1=w:=⟨_,rfl⟩
   rw [←hw1] at hp h0 h3
   have hq0:=hp
   clear hp
   have hp:Hp N0 w1 w []:=by rw [hw1];exact Hp.start _
   clear hw1
   cases f1 with
   |some y=>
    obtain ⟨y1,y2,y3⟩:=y
    ((conv=>whnf);repeat' ((first|((with_reducible apply br_id);first|with_reducible refine br_t ?_|with_reducible refine br_f ?_)|((with_reducible apply ld_id);(refine ld_of (hp.chg.cell0 h3) ?_))|((with_reducible apply gen_id);(refine gen_bin (v:= .bool true) rfl (eqi_guardr ..) (by rfl) ?_))|((with_reducible apply cl_id);(refine cl_eq ((nonr_any b (hp.chg.cell0 h0))) rfl rfl ?_;rintro e w ⟨rfl,hcc⟩;replace hp:=hp.call0 hcc;refine ⟨_,rfl,?_⟩)))<;>(conv=>whnf)))
    exact ps_val (v':=i64 0) rfl ⟨some (y1,y2,y3),0,rfl,rfl,rfl,(hq0.call0 hp.chg).shut1 (j:=0) rfl⟩
   |none=>
    ((conv=>whnf);repeat' ((first|((with_reducible apply br_id);with_reducible refine br_f ?_)|((with_reducible apply ar_id);refine ar_i64 (by omega) ?_)|((with_reducible apply ld_id);(refine ld_of (hp.chg.cell0 h3) ?_))|((with_reducible apply gen_id);(refine gen_bin (v:= .bool false) rfl (eqi_guard0 ..) (by rfl) ?_))|((with_reducible apply cl_id);(refine cl_eq ((nonr_any b (hp.chg.cell0 h0))) rfl rfl ?_;rintro e w ⟨rfl,hcc⟩;replace hp:=hp.call0 hcc;refine ⟨_,rfl,?_⟩)))<;>(conv=>whnf)))
    refine ps_val (v':=i64 N) rfl ⟨none,N,?_,?_,rfl,?_⟩
    ·show (if N=0 then _ else _)=(if 1≤N∧N≤most then (N,p',none) else (0,p',some 4)).2.2
     by_cases hN0:N=0
     ·rw [if_pos hN0,if_neg (by omega)];rfl
     ·rw [if_neg hN0,if_pos (by omega)];rfl
    ·show N=(if 1≤N∧N≤most then (N,p',(none:Option Int)) else (0,p',some 4)).1
     by_cases hN0:N=0
     ·rw [if_neg (by omega)];exact hN0
     ·rw [if_pos (by omega)]
    ·have hD:(if 1≤N∧N≤most then (N,p',(none:Option Int)) else (0,p',some 4)).2.1=p':=by split<;>rfl
     show Mut _ (star (rdRs b q (if 1≤N∧N≤most then (N,p',(none:Option Int)) else (0,p',some 4)).2.1 none)) w0 w
     rw [hD]
     exact (hq0.call0 hp.chg).shut1 (j:=0) rfl
 refine calls_x (args:= [_,_]) tabOk Tryz.func121 Tryz.ntmps121 Tryz.results121 rfl (Nat.le_of_ble_eq_true rfl) ?_
 ((conv=>whnf))
 refine cl_of hcount ?_
 rintro r w ⟨f1,c,hf1,hc,rfl,hm⟩
 replace hp:=hp.via (j:=0) rfl hm
 dsimp only [List.set] at hp
 clear hm hcount
 refine ⟨_,rfl,?_⟩
 obtain ⟨p',hp'⟩:∃p',(rdCnt q.l p (badE f) most).2.1=p':=⟨_,rfl⟩
 obtain ⟨f3,hf3⟩:∃f3,(rdCnt q.l p (badE f) most).2.2=f3:=⟨_,rfl⟩
 rw [hp',hf3,←hc]
 rw [hp'] at hp
 rw [hf3] at hf1
 ((conv=>whnf);repeat' (((with_reducible apply br_id);(with_reducible refine br_eq (fun hx=>?_) (fun hx=>?_))<;>(try (exfalso;first|omega|contradiction)))<;>(conv=>whnf)))
 ·refine cl_of (rfail_any 4 (by decide) (hp.get (j:=0) rfl)) ?_
  rintro r w ⟨rfl,f2,hf2,hm⟩
  replace hp:=hp.via (j:=0) rfl hm
  dsimp only [List.set] at hp
  clear hm
  refine ⟨_,rfl,?_⟩
  ((conv=>whnf))
  have hc0:c=0:=by omega
  rw [if_pos hc0] at hf1
  exact ps_val (v':=i64 c) rfl ⟨f2,by rw [hf2,hf1],rfl,hp.shut1 (j:=0) rfl⟩
 ·have hc0:c≠0:=by omega
  rw [if_neg hc0] at hf1
  exact ps_val (v':=i64 c) rfl ⟨f1,hf1,rfl,hp.shut1 (j:=0) rfl⟩
theorem rdCnt_le {l:List UInt8} {p:Nat} {f:Option Int} {most:Nat} (h:p≤l.length):(rdCnt l p f most).2.1≤l.length∧(rdCnt l p f most).1≤most:=by
 have h1:=(rdTake_le (f:=f) (n:=1) h).1
 unfold rdCnt
 dsimp only
 split
 ·exact ⟨h1,Nat.zero_le _⟩
 ·split
  ·rename_i hh;exact ⟨h1,hh.2⟩
  ·exact ⟨h1,Nat.zero_le _⟩
end
end Go.Proofs.YtpbapnlnheahnaaGreatDoor
