/- Stab2: slices.SortStableFunc at plan's steps: two sorted parts of a row merged in place. Of own rows of at most a million. -/
import Derived.Test.YteabebmlclgakaaGreatMPlanQuiet16
set_option linter.unusedSimpArgs false
set_option linter.unusedVariables false
namespace Go.Proofs.YteabebmlclgakaaGreat
open Go.RowKit
set_option maxRecDepth 100000
set_option maxHeartbeats 8000000
theorem get_off {α:Type} (A B C:List α) (i k:Nat) (hk:A.length≤k) (hi:k - A.length=i) (hb:i < B.length):(A++(B++C))[k]? =B[i]? :=by
 rw [List.getElem?_append_right hk,hi,List.getElem?_append_left hb]
theorem get_lastL {α:Type} {A:List α} {u:α} (h:A.getLast? =some u):1≤A.length∧A[A.length - 1]? =some u:=by
 rw [List.getLast?_eq_getElem?] at h
 refine ⟨?_,h⟩
 rcases Nat.eq_zero_or_pos A.length with h0|h0
 ·rw [List.eq_nil_of_length_eq_zero h0] at h
  cases h
 ·exact h0
theorem get_headL {α:Type} {A:List α} {u:α} (h:A.head? =some u):1≤A.length∧A[0]? =some u:=by
 cases A with
 |nil=>cases h
 |cons x A=>exact ⟨by simp,h⟩
structure Hidd (p:Prop):Prop where
 out:p
section
variable {w0 : World} {g c N a b m : Nat}
theorem sym_one {x:Stp} {P Y S:List Stp} (h:(stR (some ⟨g,0,none⟩) c (P++(x::(Y++S)))).ok w0) (hS:Srt cmpS Y) (hY:1≤Y.length) (ha:P.length=a) (hm:a+1=m) (hb:m+Y.length=b) (hN:b+S.length=N) (hn:N≤1000000):Calls Tryz.prog 264 #[.slice (some ⟨g,0,none⟩) N c,i64 a,i64 m,i64 b,cmpV] w0 fun e w'=>e= .returned (.tuple #[])∧∃M:List Stp,M.Perm (x::Y)∧Srt cmpS M∧Mut (stR (some ⟨g,0,none⟩) c (P++(x::(Y++S)))) (stR (some ⟨g,0,none⟩) c (P++(M++S))) w0 w':=by
 have hp:=Hp.one h
 have us:=Tryz.underlying141
 obtain ⟨W0,hW0⟩:∃W0,(stR (some ⟨g,0,none⟩) c (P++(x::(Y++S)))).dom=W0:=⟨_,rfl⟩
 rw [hW0] at hp
 obtain ⟨L,hLL⟩:∃L,P++(x::(Y++S))=L:=⟨_,rfl⟩
 have hLl:L.length=N:=by rw [←hLL];simp only [List.length_append,List.length_cons];omega
 have hxa:L[a]? =some x:=by rw [←hLL,←ha];exact get_mid _ _ _
 have hYat:∀k,k < Y.length→L[m+k]? =Y[k]? :=fun k hk=>by
  rw [←hLL,show P++(x::(Y++S))=(P++ [x])++(Y++S) by simp]
  exact get_off _ _ _ k (m+k) (by rw [List.length_append,List.length_singleton];omega) (by rw [List.length_append,List.length_singleton];omega) hk
 have hA:(stS (some ⟨g,0,none⟩) c L).A=some ⟨g,0,none⟩:=rfl
 rw [hLL] at hp
 refine calls_x (args:= [_,_,_,_,_]) tabOk Tryz.func264 Tryz.ntmps264 Tryz.results264 rfl (Nat.le_of_ble_eq_true rfl) ?_
 ((conv=>whnf);repeat' ((first|((with_reducible refine br_id ?_);((with_reducible refine br_eq (fun hx=>?_) (fun hx=>?_))<;>(try (exfalso;first|omega|contradiction))))|((with_reducible refine ar_id ?_);((refine ar_n (1) (by omega) (by omega) ?_))))<;>(conv=>whnf)))
 refine lp_inv (α:=Nat×Nat) (fun x=> [(0, .slice (some ⟨g,0,none⟩) N c),(1,i64 a),(4,cmpV),(10,i64 x.1),(11,i64 x.2)]) (fun y w=>m≤y.1∧y.1≤y.2∧y.2≤b∧(m < y.1→∃u,L[y.1 - 1]? =some u∧cmpS u x < 0)∧(y.2 < b→∃u,L[y.2]? =some u∧¬cmpS u x < 0)∧Hp W0 w0 w [stR (some ⟨g,0,none⟩) c L]) (fun y=>y.2 - y.1) (m,b) (by (repeat' (first|exact trivial|(refine ⟨rfl,?_⟩)))) ⟨Nat.le_refl _,by show m≤b;omega,Nat.le_refl _,fun h=>absurd h (Nat.lt_irrefl _),fun h=>absurd h (Nat.lt_irrefl _),hp⟩ ?_
 clear hp
 rintro ⟨i,j⟩ e0 w ⟨h1,h2,h3,h4,h5,hp⟩
 dsimp only at h1 h2 h3 h4 h5 hp ⊢
 rcases Nat.lt_or_ge i j with hlt|hge
 ·obtain ⟨k,hk⟩:∃k,(i+j) / 2 ^ 1=k:=⟨_,rfl⟩
  have hk2:i≤k∧k < j:=by omega
  obtain ⟨y,hy⟩:∃y,L[k]? =some y:=⟨_,List.getElem?_eq_getElem (by omega)⟩
  have hcmp:=fun w=>cmpS_any y x w
  obtain ⟨q,hq⟩:∃q,cmpS y x=q:=⟨_,rfl⟩
  rw [hq] at hcmp
  have hshr:∀{g:Value→Prop},g (.int .u64 (k:Int))→g (.int .u64 (((i+j) / 2 ^ 1:Nat):Int)):=fun h=>by rw [hk];exact h
  by_cases hneg:q < 0
  ·((conv=>whnf);repeat' ((first|((with_reducible refine br_id ?_);((with_reducible refine br_dec (fun hx=>?_) (fun hx=>?_))<;>(try (exfalso;first|omega|contradiction))))|((with_reducible refine ar_id ?_);first|((refine ar_n (i+j) (by omega) (by omega) ?_))|((refine ar_n (k+1) (by omega) (by omega) ?_))|((refine ar_n (k) (by omega) (by omega) ?_))|(refine ar_u64 (by omega) ?_))|((with_reducible refine ldn_id ?_);((refine ldn_ownx hp 0 rfl ‹_› _ rfl ‹_› rfl ?_)))|((with_reducible refine gen_id ?_);((refine gen_shr64 rfl (i+j) 1 rfl rfl rfl (by decide) ?_;rw [hk])))|((with_reducible refine dr_id ?_);(refine dr_auto tabOk (by kernel_rfl) (by decide+kernel) ?_;(try replace hp:=hp.drew)))|((with_reducible refine cl_id ?_);((refine cl_eq ((hcmp _)) rfl rfl ?_;rintro e w ⟨rfl,hcc⟩;replace hp:=hp.call0 hcc;refine ⟨_,rfl,?_⟩)))|((with_reducible refine rd_id ?_);((refine rd_ixs rfl rfl ‹_› rfl rfl (by omega) ?_))))<;>(conv=>whnf)))
   all_goals exact lp_next (k+1,j) (by show j - (k+1) < j - i;omega) (by (repeat' (first|exact trivial|(refine ⟨rfl,?_⟩)))) ⟨by show m≤k+1;omega,by show k+1≤j;omega,h3,fun _=>⟨y,hy,by rw [hq];exact hneg⟩,h5,hp⟩
  ·((conv=>whnf);repeat' ((first|((with_reducible refine br_id ?_);((with_reducible refine br_dec (fun hx=>?_) (fun hx=>?_))<;>(try (exfalso;first|omega|contradiction))))|((with_reducible refine ar_id ?_);first|((refine ar_n (i+j) (by omega) (by omega) ?_))|((refine ar_n (k) (by omega) (by omega) ?_))|(refine ar_u64 (by omega) ?_))|((with_reducible refine ldn_id ?_);((refine ldn_ownx hp 0 rfl ‹_› _ rfl ‹_› rfl ?_)))|((with_reducible refine gen_id ?_);((refine gen_shr64 rfl (i+j) 1 rfl rfl rfl (by decide) ?_;rw [hk])))|((with_reducible refine dr_id ?_);(refine dr_auto tabOk (by kernel_rfl) (by decide+kernel) ?_;(try replace hp:=hp.drew)))|((with_reducible refine cl_id ?_);((refine cl_eq ((hcmp _)) rfl rfl ?_;rintro e w ⟨rfl,hcc⟩;replace hp:=hp.call0 hcc;refine ⟨_,rfl,?_⟩)))|((with_reducible refine rd_id ?_);((refine rd_ixs rfl rfl ‹_› rfl rfl (by omega) ?_))))<;>(conv=>whnf)))
   all_goals exact lp_next (i,k) (by show k - i < j - i;omega) (by (repeat' (first|exact trivial|(refine ⟨rfl,?_⟩)))) ⟨h1,by show i≤k;omega,by show k≤b;omega,h4,fun _=>⟨y,hy,by rw [hq];exact hneg⟩,hp⟩
 ·obtain rfl:i=j:=by omega
  obtain ⟨Y1,Y2,hYY,hYl⟩:=cut_at (l:=Y) (n:=i - m) (by omega)
  have hY2l:Y1.length+Y2.length=Y.length:=by rw [hYY,List.length_append]
  have hsort:Srt cmpS (Y1++x::Y2):=by
   refine srt_put cmp_ok (by rw [←hYY];exact hS) (fun u hu=>?_) fun u hu=>?_
   ·obtain ⟨g1,g2⟩:=get_lastL hu
    obtain ⟨v,hv,hv2⟩:=h4 (by omega)
    have h9:=hYat (Y1.length - 1) (by omega)
    rw [show m+(Y1.length - 1)=i - 1 by omega,hv,hYY,List.getElem?_append_left (by omega),g2] at h9
    rw [←Option.some.inj h9]
    exact cmp_ok.asym _ _ hv2
   ·obtain ⟨g1,g2⟩:=get_headL hu
    obtain ⟨v,hv,hv2⟩:=h5 (by omega)
    have h9:=hYat Y1.length (by omega)
    rw [show m+Y1.length=i by omega,hv,hYY,List.getElem?_append_right (Nat.le_refl _),Nat.sub_self,g2] at h9
    rw [←Option.some.inj h9]
    exact hv2
  have hperm:(Y1++x::Y2).Perm (x::Y):=by rw [hYY];exact List.perm_middle
  have hL0:L=P++([]++(x::(Y1++(Y2++S)))):=by rw [←hLL,hYY];simp
  rw [hL0] at hp
  ((conv=>whnf);repeat' (((with_reducible refine br_id ?_);((with_reducible refine br_dec (fun hx=>?_) (fun hx=>?_))<;>(try (exfalso;first|omega|contradiction))))<;>(conv=>whnf)))
  refine lp_inv (α:=List Stp×List Stp) (fun y=> [(0, .slice (some ⟨g,0,none⟩) N c),(10,i64 i),(13,i64 (a+y.1.length:Nat))]) (fun y w=>y.1++y.2=Y1∧Hp W0 w0 w [stR (some ⟨g,0,none⟩) c (P++(y.1++(x::(y.2++(Y2++S)))))]) (fun y=>y.2.length) ([],Y1) (by (repeat' (first|exact trivial|(refine ⟨rfl,?_⟩)))) ⟨rfl,hp⟩ ?_
  clear hp
  rintro ⟨A,B⟩ e0 w ⟨hAB,hp⟩
  dsimp only at hAB hp ⊢
  have hABl:A.length+B.length=Y1.length:=by rw [←hAB,List.length_append]
  cases B with
  |nil=>
   rw [List.length_nil] at hABl
   rw [List.append_nil] at hAB
   subst hAB
   ((conv=>whnf);repeat' ((first|((with_reducible refine br_id ?_);((with_reducible refine br_dec (fun hx=>?_) (fun hx=>?_))<;>(try (exfalso;first|omega|contradiction))))|((with_reducible refine ar_id ?_);((refine ar_i64 (by omega) ?_))))<;>(conv=>whnf)))
   refine ps_val (v':= .tuple #[]) rfl ⟨rfl,_,hperm,hsort,?_⟩
   rw [show P++(A++(x::([]++(Y2++S))))=P++((A++x::Y2)++S) by simp,←hW0] at hp
   exact hp.shut1 (j:=0) rfl
  |cons y B=>
   rw [List.length_cons] at hABl
   obtain ⟨k,hk⟩:∃k,a+A.length=k:=⟨_,rfl⟩
   rw [hk]
   have hki:k < i - 1∧k+1 < N∧k+1 < 1000000:=by omega
   have hL1:P++(A++(x::(y::B++(Y2++S))))=(P++A)++x::([]++y::(B++(Y2++S))):=by simp
   have hs:=swap_mid (P++A) [] (B++(Y2++S)) x y (i:=k) (j:=k+1) (by rw [List.length_append];omega) (by rw [List.length_append,List.length_nil];omega)
   have hx1:((P++A)++x::([]++y::(B++(Y2++S))))[k]? =some x:=by rw [show k=(P++A).length by rw [List.length_append];omega];exact get_mid _ _ _
   have hx2:((P++A)++x::([]++y::(B++(Y2++S))))[k+1]? =some y:=by
    rw [show (P++A)++x::([]++y::(B++(Y2++S)))=((P++A)++ [x])++y::(B++(Y2++S)) by simp,show k+1=((P++A)++ [x]).length by simp only [List.length_append,List.length_singleton];omega]
    exact get_mid _ _ _
   have hnew:(P++A)++y::([]++x::(B++(Y2++S)))=P++((A++ [y])++(x::(B++(Y2++S)))):=by simp
   have hKl:((P++A)++x::([]++y::(B++(Y2++S)))).length=N:=by simp only [List.length_append,List.length_cons,List.length_nil];omega
   rw [hnew] at hs
   rw [hL1] at hp
   clear hL1 hnew hxa hLl hL0
   obtain ⟨K,hKK⟩:∃K,(P++A)++x::([]++y::(B++(Y2++S)))=K:=⟨_,rfl⟩
   rw [hKK] at hp hs hx1 hx2 hKl
   clear hKK
   have hA2:(stS (some ⟨g,0,none⟩) c K).A=some ⟨g,0,none⟩:=rfl
   ((conv=>whnf);repeat' ((first|((with_reducible refine br_id ?_);((with_reducible refine br_dec (fun hx=>?_) (fun hx=>?_))<;>(try (exfalso;first|omega|contradiction))))|((with_reducible refine ar_id ?_);((refine ar_n (i - 1) (by omega) (by omega) ?_))))<;>(conv=>whnf)))
   refine dr_autos [4] 1000 tabOk (by kernel_rfl) (by decide+kernel) ?_
   replace hp:=hp.drew
   ((conv=>whnf);repeat' ((first|((with_reducible refine ar_id ?_);((refine ar_n (k+1) (by omega) (by omega) ?_)))|((with_reducible refine cn_id ?_);first|(refine cn rfl ?_)|(refine cn (Chg.refl _ _) ?_))|((with_reducible refine ldn_id ?_);((refine ldn_ownx hp 0 rfl ‹_› _ rfl ‹_› rfl ?_)))|((with_reducible refine st_id ?_);first|((refine st_ownx hp 0 rfl rfl k rfl y rfl (by rw [hKl];omega) (fun _=>rfl) rfl ?_);clear hp;intro w hp;dsimp only [List.set] at hp)|((refine st_ownx hp 0 rfl rfl (k+1) rfl x rfl (by rw [List.length_set,hKl];omega) (fun _=>rfl) rfl ?_);clear hp;intro w hp;dsimp only [List.set] at hp))|((with_reducible refine fk_id ?_);(refine fk_mk ?_ ?_))|((with_reducible refine rd_id ?_);((refine rd_ixs rfl rfl ‹_› rfl rfl (by omega) ?_))))<;>(conv=>whnf)))
   all_goals
    rw [hs] at hp
    exact lp_next (A++ [y],B) (by show B.length < (y::B).length;rw [List.length_cons];omega) (by rw [show a+(A++ [y]).length=k+1 by rw [List.length_append,List.length_singleton];omega];(repeat' (first|exact trivial|(refine ⟨rfl,?_⟩)))) ⟨by rw [←hAB];simp,hp⟩
theorem sym_last {y:Stp} {P X S:List Stp} (h:(stR (some ⟨g,0,none⟩) c (P++(X++(y::S)))).ok w0) (hS:Srt cmpS X) (hX:2≤X.length) (ha:P.length=a) (hm:a+X.length=m) (hb:m+1=b) (hN:b+S.length=N) (hn:N≤1000000):Calls Tryz.prog 264 #[.slice (some ⟨g,0,none⟩) N c,i64 a,i64 m,i64 b,cmpV] w0 fun e w'=>e= .returned (.tuple #[])∧∃M:List Stp,M.Perm (X++ [y])∧Srt cmpS M∧Mut (stR (some ⟨g,0,none⟩) c (P++(X++(y::S)))) (stR (some ⟨g,0,none⟩) c (P++(M++S))) w0 w':=by
 have hp:=Hp.one h
 have us:=Tryz.underlying141
 obtain ⟨W0,hW0⟩:∃W0,(stR (some ⟨g,0,none⟩) c (P++(X++(y::S)))).dom=W0:=⟨_,rfl⟩
 rw [hW0] at hp
 obtain ⟨L,hLL⟩:∃L,P++(X++(y::S))=L:=⟨_,rfl⟩
 have hLl:L.length=N:=by rw [←hLL];simp only [List.length_append,List.length_cons];omega
 have hym:L[m]? =some y:=by rw [←hLL,←List.append_assoc,show m=(P++X).length by rw [List.length_append];omega];exact get_mid _ _ _
 have hXat:∀k,k < X.length→L[a+k]? =X[k]? :=fun k hk=>by
  rw [←hLL]
  exact get_off _ _ _ k (a+k) (by omega) (by omega) hk
 have hA:(stS (some ⟨g,0,none⟩) c L).A=some ⟨g,0,none⟩:=rfl
 rw [hLL] at hp
 refine calls_x (args:= [_,_,_,_,_]) tabOk Tryz.func264 Tryz.ntmps264 Tryz.results264 rfl (Nat.le_of_ble_eq_true rfl) ?_
 ((conv=>whnf);repeat' ((first|((with_reducible refine br_id ?_);((with_reducible refine br_eq (fun hx=>?_) (fun hx=>?_))<;>(try (exfalso;first|omega|contradiction))))|((with_reducible refine ar_id ?_);first|((refine ar_n (X.length) (by omega) (by omega) ?_))|((refine ar_n (1) (by omega) (by omega) ?_))))<;>(conv=>whnf)))
 refine lp_inv (α:=Nat×Nat) (fun x=> [(0, .slice (some ⟨g,0,none⟩) N c),(2,i64 m),(4,cmpV),(14,i64 x.1),(15,i64 x.2)]) (fun z w=>a≤z.1∧z.1≤z.2∧z.2≤m∧(a < z.1→∃u,L[z.1 - 1]? =some u∧¬cmpS y u < 0)∧(z.2 < m→∃u,L[z.2]? =some u∧cmpS y u < 0)∧Hp W0 w0 w [stR (some ⟨g,0,none⟩) c L]) (fun z=>z.2 - z.1) (a,m) (by (repeat' (first|exact trivial|(refine ⟨rfl,?_⟩)))) ⟨Nat.le_refl _,by show a≤m;omega,Nat.le_refl _,fun h=>absurd h (Nat.lt_irrefl _),fun h=>absurd h (Nat.lt_irrefl _),hp⟩ ?_
 clear hp
 rintro ⟨i,j⟩ e0 w ⟨h1,h2,h3,h4,h5,hp⟩
 dsimp only at h1 h2 h3 h4 h5 hp ⊢
 rcases Nat.lt_or_ge i j with hlt|hge
 ·obtain ⟨k,hk⟩:∃k,(i+j) / 2 ^ 1=k:=⟨_,rfl⟩
  have hk2:i≤k∧k < j:=by omega
  obtain ⟨u,hu⟩:∃u,L[k]? =some u:=⟨_,List.getElem?_eq_getElem (by omega)⟩
  have hcmp:=fun w=>cmpS_any y u w
  obtain ⟨q,hq⟩:∃q,cmpS y u=q:=⟨_,rfl⟩
  rw [hq] at hcmp
  by_cases hneg:q < 0
  ·((conv=>whnf);repeat' ((first|((with_reducible refine br_id ?_);first|(with_reducible refine br_not ?_)|((with_reducible refine br_dec (fun hx=>?_) (fun hx=>?_))<;>(try (exfalso;first|omega|contradiction))))|((with_reducible refine ar_id ?_);first|((refine ar_n (i+j) (by omega) (by omega) ?_))|((refine ar_n (k) (by omega) (by omega) ?_))|(refine ar_u64 (by omega) ?_))|((with_reducible refine ldn_id ?_);((refine ldn_ownx hp 0 rfl ‹_› _ rfl ‹_› rfl ?_)))|((with_reducible refine gen_id ?_);((refine gen_shr64 rfl (i+j) 1 rfl rfl rfl (by decide) ?_;rw [hk])))|((with_reducible refine dr_id ?_);(refine dr_auto tabOk (by kernel_rfl) (by decide+kernel) ?_;(try replace hp:=hp.drew)))|((with_reducible refine cl_id ?_);((refine cl_eq ((hcmp _)) rfl rfl ?_;rintro e w ⟨rfl,hcc⟩;replace hp:=hp.call0 hcc;refine ⟨_,rfl,?_⟩)))|((with_reducible refine rd_id ?_);((refine rd_ixs rfl rfl ‹_› rfl rfl (by omega) ?_))))<;>(conv=>whnf)))
   all_goals exact lp_next (i,k) (by show k - i < j - i;omega) (by (repeat' (first|exact trivial|(refine ⟨rfl,?_⟩)))) ⟨h1,by show i≤k;omega,by show k≤m;omega,h4,fun _=>⟨u,hu,by rw [hq];exact hneg⟩,hp⟩
  ·((conv=>whnf);repeat' ((first|((with_reducible refine br_id ?_);first|(with_reducible refine br_not ?_)|((with_reducible refine br_dec (fun hx=>?_) (fun hx=>?_))<;>(try (exfalso;first|omega|contradiction))))|((with_reducible refine ar_id ?_);first|((refine ar_n (i+j) (by omega) (by omega) ?_))|((refine ar_n (k+1) (by omega) (by omega) ?_))|((refine ar_n (k) (by omega) (by omega) ?_))|(refine ar_u64 (by omega) ?_))|((with_reducible refine ldn_id ?_);((refine ldn_ownx hp 0 rfl ‹_› _ rfl ‹_› rfl ?_)))|((with_reducible refine gen_id ?_);((refine gen_shr64 rfl (i+j) 1 rfl rfl rfl (by decide) ?_;rw [hk])))|((with_reducible refine dr_id ?_);(refine dr_auto tabOk (by kernel_rfl) (by decide+kernel) ?_;(try replace hp:=hp.drew)))|((with_reducible refine cl_id ?_);((refine cl_eq ((hcmp _)) rfl rfl ?_;rintro e w ⟨rfl,hcc⟩;replace hp:=hp.call0 hcc;refine ⟨_,rfl,?_⟩)))|((with_reducible refine rd_id ?_);((refine rd_ixs rfl rfl ‹_› rfl rfl (by omega) ?_))))<;>(conv=>whnf)))
   all_goals exact lp_next (k+1,j) (by show j - (k+1) < j - i;omega) (by (repeat' (first|exact trivial|(refine ⟨rfl,?_⟩)))) ⟨by show a≤k+1;omega,by show k+1≤j;omega,h3,fun _=>⟨u,hu,by rw [hq];exact hneg⟩,h5,hp⟩
 ·obtain rfl:i=j:=by omega
  obtain ⟨X1,X2,hXX,hXl⟩:=cut_at (l:=X) (n:=i - a) (by omega)
  have hX2l:X1.length+X2.length=X.length:=by rw [hXX,List.length_append]
  have hsort:Srt cmpS (X1++y::X2):=by
   refine srt_put cmp_ok (by rw [←hXX];exact hS) (fun u hu=>?_) fun u hu=>?_
   ·obtain ⟨g1,g2⟩:=get_lastL hu
    obtain ⟨v,hv,hv2⟩:=h4 (by omega)
    have h9:=hXat (X1.length - 1) (by omega)
    rw [show a+(X1.length - 1)=i - 1 by omega,hv,hXX,List.getElem?_append_left (by omega),g2] at h9
    rw [←Option.some.inj h9]
    exact hv2
   ·obtain ⟨g1,g2⟩:=get_headL hu
    obtain ⟨v,hv,hv2⟩:=h5 (by omega)
    have h9:=hXat X1.length (by omega)
    rw [show a+X1.length=i by omega,hv,hXX,List.getElem?_append_right (Nat.le_refl _),Nat.sub_self,g2] at h9
    rw [←Option.some.inj h9]
    exact cmp_ok.asym _ _ hv2
  have hperm:(X1++y::X2).Perm (X++ [y]):=by
   rw [hXX,List.append_assoc]
   refine List.Perm.append_left X1 ?_
   exact (List.perm_append_singleton y X2).symm
  have hL0:L=P++(X1++(X2++(y::([]++S)))):=by rw [←hLL,hXX];simp
  rw [hL0] at hp
  ((conv=>whnf);repeat' (((with_reducible refine br_id ?_);((with_reducible refine br_dec (fun hx=>?_) (fun hx=>?_))<;>(try (exfalso;first|omega|contradiction))))<;>(conv=>whnf)))
  refine lp_inv (α:=List Stp×List Stp) (fun z=> [(0, .slice (some ⟨g,0,none⟩) N c),(14,i64 i),(17,i64 (i+z.1.length:Nat))]) (fun z w=>z.1++z.2=X2∧Hp W0 w0 w [stR (some ⟨g,0,none⟩) c (P++(X1++(z.1++(y::(z.2++S)))))]) (fun z=>z.1.length) (X2, []) (by rw [show i+X2.length=m by omega];(repeat' (first|exact trivial|(refine ⟨rfl,?_⟩)))) ⟨by rw [List.append_nil],hp⟩ ?_
  clear hp
  rintro ⟨A,B⟩ e0 w ⟨hAB,hp⟩
  dsimp only at hAB hp ⊢
  have hABl:A.length+B.length=X2.length:=by rw [←hAB,List.length_append]
  rcases Nat.eq_zero_or_pos A.length with h0|h0
  ·obtain rfl:A= []:=List.eq_nil_of_length_eq_zero h0
   rw [List.nil_append] at hAB
   subst hAB
   ((conv=>whnf);repeat' (((with_reducible refine br_id ?_);((with_reducible refine br_dec (fun hx=>?_) (fun hx=>?_))<;>(try (exfalso;first|omega|contradiction))))<;>(conv=>whnf)))
   refine ps_val (v':= .tuple #[]) rfl ⟨rfl,_,hperm,hsort,?_⟩
   rw [show P++(X1++([]++(y::(B++S))))=P++((X1++y::B)++S) by simp,←hW0] at hp
   exact hp.shut1 (j:=0) rfl
  ·obtain ⟨A,z,rfl⟩:=cut_last (l:=A) h0
   rw [List.length_append,List.length_singleton] at hABl
   obtain ⟨k,hk⟩:∃k,i+A.length=k:=⟨_,rfl⟩
   rw [show i+(A++ [z]).length=k+1 by rw [List.length_append,List.length_singleton];omega]
   have hki:i < k+1∧k+1 < N∧k+1 < 1000000:=by omega
   have hL1:P++(X1++(A++ [z]++(y::(B++S))))=(P++(X1++A))++z::([]++y::(B++S)):=by simp
   have hs:=swap_rev (P++(X1++A)) [] (B++S) z y (i:=k+1) (j:=k) (by simp only [List.length_append,List.length_nil];omega) (by simp only [List.length_append];omega)
   have hx2:((P++(X1++A))++z::([]++y::(B++S)))[k]? =some z:=by rw [show k=(P++(X1++A)).length by simp only [List.length_append];omega];exact get_mid _ _ _
   have hx1:((P++(X1++A))++z::([]++y::(B++S)))[k+1]? =some y:=by
    rw [show (P++(X1++A))++z::([]++y::(B++S))=((P++(X1++A))++ [z])++y::(B++S) by simp,show k+1=((P++(X1++A))++ [z]).length by simp only [List.length_append,List.length_singleton];omega]
    exact get_mid _ _ _
   have hnew:(P++(X1++A))++y::([]++z::(B++S))=P++(X1++(A++(y::((z::B)++S)))):=by simp
   have hKl:((P++(X1++A))++z::([]++y::(B++S))).length=N:=by simp only [List.length_append,List.length_cons,List.length_nil];omega
   rw [hnew] at hs
   rw [hL1] at hp
   clear hL1 hnew hym hLl hL0
   obtain ⟨K,hKK⟩:∃K,(P++(X1++A))++z::([]++y::(B++S))=K:=⟨_,rfl⟩
   rw [hKK] at hp hs hx1 hx2 hKl
   clear hKK
   have hA2:(stS (some ⟨g,0,none⟩) c K).A=some ⟨g,0,none⟩:=rfl
   ((conv=>whnf);repeat' (((with_reducible refine br_id ?_);((with_reducible refine br_dec (fun hx=>?_) (fun hx=>?_))<;>(try (exfalso;first|omega|contradiction))))<;>(conv=>whnf)))
   refine dr_autos [4] 1000 tabOk (by kernel_rfl) (by decide+kernel) ?_
   replace hp:=hp.drew
   ((conv=>whnf);repeat' ((first|((with_reducible refine ar_id ?_);((refine ar_n (k) (by omega) (by omega) ?_)))|((with_reducible refine cn_id ?_);first|(refine cn rfl ?_)|(refine cn (Chg.refl _ _) ?_))|((with_reducible refine ldn_id ?_);((refine ldn_ownx hp 0 rfl ‹_› _ rfl ‹_› rfl ?_)))|((with_reducible refine st_id ?_);first|((refine st_ownx hp 0 rfl rfl (k+1) rfl z rfl (by rw [hKl];omega) (fun _=>rfl) rfl ?_);clear hp;intro w hp;dsimp only [List.set] at hp)|((refine st_ownx hp 0 rfl rfl k rfl y rfl (by rw [List.length_set,hKl];omega) (fun _=>rfl) rfl ?_);clear hp;intro w hp;dsimp only [List.set] at hp))|((with_reducible refine fk_id ?_);(refine fk_mk ?_ ?_))|((with_reducible refine rd_id ?_);((refine rd_ixs rfl rfl ‹_› rfl rfl (by omega) ?_))))<;>(conv=>whnf)))
   all_goals
    rw [hs] at hp
    exact lp_next (A,z::B) (by show A.length < (A++ [z]).length;rw [List.length_append,List.length_singleton];omega) (by rw [hk];(repeat' (first|exact trivial|(refine ⟨rfl,?_⟩)))) ⟨by rw [←hAB];simp,hp⟩
theorem sym_any:∀(K:Nat) {w0:World} {g c N a b m:Nat} {P X Y S:List Stp},X.length+Y.length≤K→(stR (some ⟨g,0,none⟩) c (P++(X++(Y++S)))).ok w0→1≤X.length→1≤Y.length→Srt cmpS X→Srt cmpS Y→P.length=a→a+X.length=m→m+Y.length=b→b+S.length=N→N≤1000000→Calls Tryz.prog 264 #[.slice (some ⟨g,0,none⟩) N c,i64 a,i64 m,i64 b,cmpV] w0 fun e w'=>e= .returned (.tuple #[])∧∃M:List Stp,M.Perm (X++Y)∧Srt cmpS M∧Mut (stR (some ⟨g,0,none⟩) c (P++(X++(Y++S)))) (stR (some ⟨g,0,none⟩) c (P++(M++S))) w0 w'
 |0,_,_,_,_,_,_,_,_,_,_,_,hk,_,h1,_,_,_,_,_,_,_,_=>by omega
 |K+1,w0,g,c,N,a,b,m,P,X,Y,S,hK,h,hX1,hY1,hSX,hSY,ha,hm,hb,hN,hn=>by
  by_cases cX:X.length=1
  ·obtain ⟨x,X',rfl⟩:=cut_head (l:=X) (by omega)
   obtain rfl:X'= []:=List.eq_nil_of_length_eq_zero (by rw [List.length_cons] at cX;omega)
   exact sym_one h hSY hY1 ha (by rw [←hm];rfl) hb hN hn
  by_cases cY:Y.length=1
  ·obtain ⟨y,Y',rfl⟩:=cut_head (l:=Y) (by omega)
   obtain rfl:Y'= []:=List.eq_nil_of_length_eq_zero (by rw [List.length_cons] at cY;omega)
   exact sym_last h hSX (by omega) ha hm (by rw [←hb];rfl) hN hn
  have hp:=Hp.one h
  have us:=Tryz.underlying141
  obtain ⟨W0,hW0⟩:∃W0,(stR (some ⟨g,0,none⟩) c (P++(X++(Y++S)))).dom=W0:=⟨_,rfl⟩
  rw [hW0] at hp
  obtain ⟨L,hLL⟩:∃L,P++(X++(Y++S))=L:=⟨_,rfl⟩
  have hLl:L.length=N:=by rw [←hLL];simp only [List.length_append];omega
  have hXat:∀k,a≤k→k < m→L[k]? =X[k - a]? :=fun k h1 h2=>by
   rw [←hLL]
   exact get_off _ _ _ _ k (by omega) (by omega) (by omega)
  have hYat:∀k,m≤k→k < b→L[k]? =Y[k - m]? :=fun k h1 h2=>by
   rw [←hLL,←List.append_assoc]
   exact get_off _ _ _ _ k (by rw [List.length_append];omega) (by rw [List.length_append];omega) (by omega)
  have hA:(stS (some ⟨g,0,none⟩) c L).A=some ⟨g,0,none⟩:=rfl
  rw [hLL] at hp
  obtain ⟨md,hmd⟩:∃md,(a+b) / 2 ^ 1=md:=⟨_,rfl⟩
  have hmd2:2*md≤a+b∧a+b≤2*md+1:=by omega
  have hD:∃lo hi,((md < m∧lo+b=md+m∧hi=md)∨(m≤md∧lo=a∧hi=m)):=by
   by_cases h1:md < m
   ·exact ⟨md+m - b,md, .inl ⟨h1,by omega,rfl⟩⟩
   ·exact ⟨a,m, .inr ⟨by omega,rfl,rfl⟩⟩
  obtain ⟨lo,hi,hD⟩:=hD
  have hrg:∀k,lo≤k→k < hi→a≤k∧k < m∧m≤md+m - 1 - k∧md+m - 1 - k < b:=fun k h1 h2=>by omega
  have hlh:a≤lo∧lo≤hi∧hi≤m∧hi≤md:=by omega
  refine calls_x (args:= [_,_,_,_,_]) tabOk Tryz.func264 Tryz.ntmps264 Tryz.results264 rfl (Nat.le_of_ble_eq_true rfl) ?_
  rcases Nat.lt_or_ge md m with hmm|hmm
  all_goals
   ((conv=>whnf);repeat' ((first|((with_reducible refine br_id ?_);first|((with_reducible refine br_dec (fun hx=>?_) (fun hx=>?_))<;>(try (exfalso;first|omega|contradiction)))|((with_reducible refine br_eq (fun hx=>?_) (fun hx=>?_))<;>(try (exfalso;first|omega|contradiction))))|((with_reducible refine ar_id ?_);first|((refine ar_n (X.length) (by omega) (by omega) ?_))|((refine ar_n (Y.length) (by omega) (by omega) ?_))|((refine ar_n (a+b) (by omega) (by omega) ?_))|((refine ar_n (md+m) (by omega) (by omega) ?_))|((refine ar_n (md) (by omega) (by omega) ?_))|((refine ar_n (lo) (by omega) (by omega) ?_))|((refine ar_n (md+m - 1) (by omega) (by omega) ?_))|(refine ar_u64 (by omega) ?_))|((with_reducible refine gen_id ?_);((refine gen_shr64 rfl (a+b) 1 rfl rfl rfl (by decide) ?_;rw [hmd]))))<;>(conv=>whnf)))
   refine lp_inv (α:=Nat×Nat) (fun x=> [(0, .slice (some ⟨g,0,none⟩) N c),(1,i64 a),(2,i64 m),(3,i64 b),(4,cmpV),(18,i64 md),(19,i64 (md+m:Nat)),(20,i64 x.1),(21,i64 x.2),(22,i64 (md+m - 1:Nat))]) (fun z w=>lo≤z.1∧z.1≤z.2∧z.2≤hi∧(lo < z.1→∃u v,L[z.1 - 1]? =some u∧L[md+m - z.1]? =some v∧¬cmpS v u < 0)∧(z.2 < hi→∃u v,L[z.2]? =some u∧L[md+m - 1 - z.2]? =some v∧cmpS v u < 0)∧Hp W0 w0 w [stR (some ⟨g,0,none⟩) c L]) (fun z=>z.2 - z.1) (lo,hi) (by first|((repeat' (first|exact trivial|(refine ⟨rfl,?_⟩)));done)|(rw [show hi=m by omega,show lo=a by omega];(repeat' (first|exact trivial|(refine ⟨rfl,?_⟩)));done)|(rw [show hi=md by omega];(repeat' (first|exact trivial|(refine ⟨rfl,?_⟩)));done)) ⟨Nat.le_refl _,hlh.2.1,Nat.le_refl _,fun h=>absurd h (Nat.lt_irrefl _),fun h=>absurd h (Nat.lt_irrefl _),hp⟩ ?_
   clear hp hmm
   rintro ⟨i,j⟩ e0 w ⟨h1,h2,h3,h4,h5,hp⟩
   dsimp only at h1 h2 h3 h4 h5 hp ⊢
   rcases Nat.lt_or_ge i j with hlt|hge
   ·obtain ⟨k,hk⟩:∃k,(i+j) / 2 ^ 1=k:=⟨_,rfl⟩
    have hk2:i≤k∧k < j:=by omega
    obtain ⟨r1,r2,r3,r4⟩:=hrg k (by omega) (by omega)
    obtain ⟨k',hk'⟩:∃k',md+m - 1 - k=k':=⟨_,rfl⟩
    obtain ⟨u,hu⟩:∃u,L[k]? =some u:=⟨_,List.getElem?_eq_getElem (by omega)⟩
    obtain ⟨v,hv⟩:∃v,L[k']? =some v:=⟨_,List.getElem?_eq_getElem (by omega)⟩
    have hcmp:=fun w=>cmpS_any v u w
    obtain ⟨q,hq⟩:∃q,cmpS v u=q:=⟨_,rfl⟩
    rw [hq] at hcmp
    have hkb:k < N∧k' < N:=by omega
    by_cases hneg:q < 0
    ·((conv=>whnf);repeat' ((first|((with_reducible refine br_id ?_);first|(with_reducible refine br_not ?_)|((with_reducible refine br_dec (fun hx=>?_) (fun hx=>?_))<;>(try (exfalso;first|omega|contradiction))))|((with_reducible refine ar_id ?_);first|((refine ar_n (i+j) (by omega) (by omega) ?_))|((refine ar_n (k') (by omega) (by omega) ?_))|(refine ar_i64 (by omega) ?_)|(refine ar_u64 (by omega) ?_))|((with_reducible refine ldn_id ?_);((refine ldn_ownx hp 0 rfl ‹_› _ rfl ‹_› rfl ?_)))|((with_reducible refine gen_id ?_);((refine gen_shr64 rfl (i+j) 1 rfl rfl rfl (by decide) ?_;rw [hk])))|((with_reducible refine dr_id ?_);(refine dr_auto tabOk (by kernel_rfl) (by decide+kernel) ?_;(try replace hp:=hp.drew)))|((with_reducible refine cl_id ?_);((refine cl_eq ((hcmp _)) rfl rfl ?_;rintro e w ⟨rfl,hcc⟩;replace hp:=hp.call0 hcc;refine ⟨_,rfl,?_⟩)))|((with_reducible refine rd_id ?_);((refine rd_ixs rfl rfl ‹_› rfl rfl (by omega) ?_))))<;>(conv=>whnf)))
     all_goals exact lp_next (i,k) (by show k - i < j - i;omega) (by (repeat' (first|exact trivial|(refine ⟨rfl,?_⟩)))) ⟨h1,by show i≤k;omega,by show k≤hi;omega,h4,fun _=>⟨u,v,hu,by rw [hk'];exact hv,by rw [hq];exact hneg⟩,hp⟩
    ·((conv=>whnf);repeat' ((first|((with_reducible refine br_id ?_);first|(with_reducible refine br_not ?_)|((with_reducible refine br_dec (fun hx=>?_) (fun hx=>?_))<;>(try (exfalso;first|omega|contradiction))))|((with_reducible refine ar_id ?_);first|((refine ar_n (i+j) (by omega) (by omega) ?_))|((refine ar_n (k+1) (by omega) (by omega) ?_))|((refine ar_n (k') (by omega) (by omega) ?_))|(refine ar_i64 (by omega) ?_)|(refine ar_u64 (by omega) ?_))|((with_reducible refine ldn_id ?_);((refine ldn_ownx hp 0 rfl ‹_› _ rfl ‹_› rfl ?_)))|((with_reducible refine gen_id ?_);((refine gen_shr64 rfl (i+j) 1 rfl rfl rfl (by decide) ?_;rw [hk])))|((with_reducible refine dr_id ?_);(refine dr_auto tabOk (by kernel_rfl) (by decide+kernel) ?_;(try replace hp:=hp.drew)))|((with_reducible refine cl_id ?_);((refine cl_eq ((hcmp _)) rfl rfl ?_;rintro e w ⟨rfl,hcc⟩;replace hp:=hp.call0 hcc;refine ⟨_,rfl,?_⟩)))|((with_reducible refine rd_id ?_);((refine rd_ixs rfl rfl ‹_› rfl rfl (by omega) ?_))))<;>(conv=>whnf)))
     all_goals exact lp_next (k+1,j) (by show j - (k+1) < j - i;omega) (by (repeat' (first|exact trivial|(refine ⟨rfl,?_⟩)))) ⟨by show lo≤k+1;omega,by show k+1≤j;omega,h3,fun _=>⟨u,v,hu,by rw [show md+m - (k+1)=k' by omega];exact hv,by rw [hq];exact hneg⟩,h5,hp⟩
   ·obtain rfl:i=j:=by omega
    have H4:Hidd _:=⟨h4⟩
    have H5:Hidd _:=⟨h5⟩
    clear h4 h5
    obtain ⟨X1,X2,hXX,hXl⟩:=cut_at (l:=X) (n:=i - a) (by omega)
    obtain ⟨e,he⟩:∃e,md+m - i=e:=⟨_,rfl⟩
    obtain ⟨Y1,Y2,hYY,hYl⟩:=cut_at (l:=Y) (n:=e - m) (by omega)
    have hX2l:X1.length+X2.length=X.length:=by rw [hXX,List.length_append]
    have hY2l:Y1.length+Y2.length=Y.length:=by rw [hYY,List.length_append]
    rw [hXX] at hSX
    rw [hYY] at hSY
    have c1:∀x y,X1.getLast? =some x→Y2.head? =some y→leC cmpS x y:=fun x y hx hy=>by
     obtain ⟨g1,g2⟩:=get_lastL hx
     obtain ⟨g3,g4⟩:=get_headL hy
     obtain ⟨u,v,hu,hv,huv⟩:=H4.out (by omega)
     rw [hXat (i - 1) (by omega) (by omega),hXX,List.getElem?_append_left (by omega),show i - 1 - a=X1.length - 1 by omega,g2] at hu
     rw [he,hYat e (by omega) (by omega),hYY,List.getElem?_append_right (by omega),show e - m - Y1.length=0 by omega,g4] at hv
     rw [Option.some.inj hu,Option.some.inj hv]
     exact huv
    have c2:∀x y,Y1.getLast? =some y→X2.head? =some x→leC cmpS y x:=fun x y hy hx=>by
     obtain ⟨g1,g2⟩:=get_lastL hy
     obtain ⟨g3,g4⟩:=get_headL hx
     obtain ⟨u,v,hu,hv,huv⟩:=H5.out (by omega)
     rw [hXat i (by omega) (by omega),hXX,List.getElem?_append_right (by omega),show i - a - X1.length=0 by omega,g4] at hu
     rw [show md+m - 1 - i=e - 1 by omega,hYat (e - 1) (by omega) (by omega),hYY,List.getElem?_append_left (by omega),show e - 1 - m=Y1.length - 1 by omega,g2] at hv
     rw [Option.some.inj hu,Option.some.inj hv]
     exact cmp_ok.asym _ _ huv
    have hfin:∀{w:World} {M1 M2:List Stp},M1.Perm (X1++Y1)→M2.Perm (X2++Y2)→Srt cmpS M1→Srt cmpS M2→Hp W0 w0 w [stR (some ⟨g,0,none⟩) c (P++(M1++(M2++S)))]→∃M:List Stp,M.Perm (X++Y)∧Srt cmpS M∧Mut (stR (some ⟨g,0,none⟩) c (P++(X++(Y++S)))) (stR (some ⟨g,0,none⟩) c (P++(M++S))) w0 w:=fun {w M1 M2} p1 p2 s1 s2 hp=>by
     obtain ⟨f1,f2⟩:=srt_sym cmp_ok hSX hSY c1 c2 p1 p2 s1 s2
     rw [←List.append_assoc M1,←hW0] at hp
     refine ⟨_,by rw [hXX,hYY];exact f2,f1,?_⟩
     exact hp.shut1 (j:=0) rfl
    have e1:=(List.pairwise_append.1 hSX).1
    have e2:=(List.pairwise_append.1 hSX).2.1
    have e3:=(List.pairwise_append.1 hSY).1
    have e4:=(List.pairwise_append.1 hSY).2.1
    have hL0:L=P++(X1++(X2++(Y1++(Y2++S)))):=by rw [←hLL,hXX,hYY];simp
    have hls:X1.length=i - a∧X2.length=m - i∧Y1.length=e - m∧Y2.length=b - e:=by omega
    rw [hL0] at hp
    clear hL0 hXat hYat hrg H4 H5 hD hA
    obtain ⟨l0,hl0⟩:∃l0,P++(X1++(X2++(Y1++(Y2++S))))=l0:=⟨_,rfl⟩
    obtain ⟨l1,hl1⟩:∃l1,P++(X1++(Y1++(X2++(Y2++S))))=l1:=⟨_,rfl⟩
    rw [hl0] at hp
    have hsw:¬(i < m∧m < e)→l0=l1:=fun hc=>by
     rw [←hl0,←hl1]
     rcases Nat.eq_zero_or_pos X2.length with h0|h0
     ·rw [List.eq_nil_of_length_eq_zero h0]
      rfl
     ·rw [List.eq_nil_of_length_eq_zero (show Y1.length=0 by omega)]
      rfl
    have hrot:i < m→m < e→∀{w:World},(stR (some ⟨g,0,none⟩) c l0).ok w→Calls Tryz.prog 277 #[.slice (some ⟨g,0,none⟩) N c,i64 i,i64 m,i64 e,cmpV] w fun e w'=>e= .returned (.tuple #[])∧Mut (stR (some ⟨g,0,none⟩) c l0) (stR (some ⟨g,0,none⟩) c l1) w w':=fun q1 q2 w hok=>by
     rw [←hl0,←List.append_assoc P X1] at hok
     have:=rot_any (a:=i) (m:=m) (b:=e) (N:=N) hok (by omega) (by omega) (by rw [List.length_append];omega) (by rw [List.length_append];omega) (by rw [List.length_append];omega) (by simp only [List.length_append];omega) hn
     rw [List.append_assoc P X1,List.append_assoc P X1,hl0,hl1] at this
     exact this
    have hsec:a < i→m < e→∀{w:World} {l:List Stp},l=l1→(stR (some ⟨g,0,none⟩) c l).ok w→Calls Tryz.prog 264 #[.slice (some ⟨g,0,none⟩) N c,i64 a,i64 i,i64 md,cmpV] w fun e w'=>e= .returned (.tuple #[])∧∃M:List Stp,M.Perm (X1++Y1)∧Srt cmpS M∧Mut (stR (some ⟨g,0,none⟩) c l) (stR (some ⟨g,0,none⟩) c (P++(M++(X2++(Y2++S))))) w w':=fun q1 q2 w l hl hok=>by
     rw [←hl1] at hl
     subst hl
     exact sym_any K (by omega) hok (by omega) (by omega) e1 e3 ha (by omega) (by omega) (by simp only [List.length_append];omega) hn
    have hthi:i < m→e < b→∀{w:World} {l M1:List Stp},M1.length=X1.length+Y1.length→l=P++(M1++(X2++(Y2++S)))→(stR (some ⟨g,0,none⟩) c l).ok w→Calls Tryz.prog 264 #[.slice (some ⟨g,0,none⟩) N c,i64 md,i64 e,i64 b,cmpV] w fun e w'=>e= .returned (.tuple #[])∧∃M:List Stp,M.Perm (X2++Y2)∧Srt cmpS M∧Mut (stR (some ⟨g,0,none⟩) c l) (stR (some ⟨g,0,none⟩) c (P++(M1++(M++S)))) w w':=fun q1 q2 w l M1 hM hl hok=>by
     rw [←List.append_assoc] at hl
     subst hl
     refine (sym_any K (by omega) hok (by omega) (by omega) e2 e4 (by rw [List.length_append];omega) (by omega) (by omega) hN hn).mono ?_
     rintro e w' ⟨g1,M,g2,g3,g4⟩
     refine ⟨g1,M,g2,g3,?_⟩
     rw [List.append_assoc P M1 (M++S)] at g4
     exact g4
    have hq1:l1=P++((X1++Y1)++(X2++(Y2++S))):=by rw [←hl1];simp
    have hs1:¬(a < i∧m < e)→Srt cmpS (X1++Y1):=fun hc=>by
     rcases Nat.eq_zero_or_pos X1.length with h0|h0
     ·rw [List.eq_nil_of_length_eq_zero h0]
      exact e3
     ·rw [List.eq_nil_of_length_eq_zero (show Y1.length=0 by omega),List.append_nil]
      exact e1
    have hs2:¬(i < m∧e < b)→Srt cmpS (X2++Y2):=fun hc=>by
     rcases Nat.eq_zero_or_pos X2.length with h0|h0
     ·rw [List.eq_nil_of_length_eq_zero h0]
      exact e4
     ·rw [List.eq_nil_of_length_eq_zero (show Y2.length=0 by omega),List.append_nil]
      exact e2
    clear e1 e2 e3 e4 hl0 hl1 c1 c2 hSX hSY
    rcases Nat.lt_or_ge i m with x2|x2<;>rcases Nat.lt_or_ge m e with y1|y1<;>rcases Nat.lt_or_ge a i with x1|x1<;>rcases Nat.lt_or_ge e b with y2|y2
    all_goals
     ((conv=>whnf);repeat' ((first|((with_reducible refine br_id ?_);first|(with_reducible refine br_t ?_)|(with_reducible refine br_f ?_)|((with_reducible refine br_dec (fun hx=>?_) (fun hx=>?_))<;>(try (exfalso;first|omega|contradiction))))|((with_reducible refine ar_id ?_);((refine ar_n (e) (by omega) (by omega) ?_)))|((with_reducible refine cl_id ?_);first|((refine cl_eq (hrot x2 y1 (hp.get (j:=0) rfl)) rfl rfl ?_;rintro e' w ⟨rfl,hmm⟩;replace hp:=hp.via (j:=0) rfl hmm;clear hmm;dsimp only [List.set] at hp;refine ⟨_,rfl,?_⟩))|((refine cl_eq (hsec x1 y1 (by first|rfl|exact hsw (by omega)) (hp.get (j:=0) rfl)) rfl rfl ?_;rintro e' w ⟨rfl,M1,p1,s1,hmm⟩;replace hp:=hp.via (j:=0) rfl hmm;clear hmm;dsimp only [List.set] at hp;refine ⟨_,rfl,?_⟩))|((refine cl_eq (hthi (M1:=M1) x2 y2 (by rw [p1.length_eq,List.length_append]) rfl (hp.get (j:=0) rfl)) rfl rfl ?_;rintro e' w ⟨rfl,M2,p2,s2,hmm⟩;replace hp:=hp.via (j:=0) rfl hmm;clear hmm;dsimp only [List.set] at hp;refine ⟨_,rfl,?_⟩))|((refine cl_eq (hthi (M1:=X1++Y1) x2 y2 (by rw [List.length_append]) (by first|exact hq1|exact (hsw (by omega)).trans hq1) (hp.get (j:=0) rfl)) rfl rfl ?_;rintro e' w ⟨rfl,M2,p2,s2,hmm⟩;replace hp:=hp.via (j:=0) rfl hmm;clear hmm;dsimp only [List.set] at hp;refine ⟨_,rfl,?_⟩))))<;>(conv=>whnf)))
     all_goals first
      |exact ps_val (v':= .tuple #[]) rfl ⟨rfl,hfin p1 p2 s1 s2 hp⟩
      |exact ps_val (v':= .tuple #[]) rfl ⟨rfl,hfin (.refl _) p2 (hs1 (by omega)) s2 hp⟩
      |exact ps_val (v':= .tuple #[]) rfl ⟨rfl,hfin p1 (.refl _) s1 (hs2 (by omega)) (by rw [List.append_assoc X2];exact hp)⟩
      |exact ps_val (v':= .tuple #[]) rfl ⟨rfl,hfin (.refl _) (.refl _) (hs1 (by omega)) (hs2 (by omega)) (by first|(rw [hq1] at hp;rw [List.append_assoc X2];exact hp)|(rw [hsw (by omega),hq1] at hp;rw [List.append_assoc X2];exact hp))⟩
end
end Go.Proofs.YteabebmlclgakaaGreat
