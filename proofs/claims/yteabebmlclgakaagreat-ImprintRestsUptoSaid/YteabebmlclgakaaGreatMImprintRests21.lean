/- MImprintRests21: Sha2, Sha3, Prt, Pay. -/
import Derived.Test.YteabebmlclgakaaGreatMImprintRestssSha
import Derived.Test.YteabebmlclgakaaGreatMImprintRests9
import Derived.Test.YteabebmlclgakaaGreatMImprintRests7
/- Sha2: the program's hash: what it is told, what it tells. -/
namespace Go.Proofs.YteabebmlclgakaaGreat
set_option linter.unusedSimpArgs false
set_option linter.unusedVariables false
open Go.RowKit
set_option maxRecDepth 100000
set_option maxHeartbeats 2000000
abbrev hashC (m : List UInt8) (r : Sl UInt8) : List Value := shaC (doneS m) r m.length
abbrev hashRs (b : Nat) (m : List UInt8) (r : Sl UInt8) : List Res := [cel b 360 (hashC m r).toArray, rowR 5 1 u8L r]
theorem new_any {w0 : World} : Calls Tryz.prog 269 #[] w0 fun e w' => ∃ b, e = .returned (ptr b) ∧ Made (star (hashRs b [] Sl.nil)) w0 w' := by
  have hp := Hp.start (S := N0) w0
  refine calls_x (args := []) tabOk Tryz.func269 Tryz.ntmps269 Tryz.results269 rfl (Nat.le_of_ble_eq_true rfl) ?_
  ((conv => whnf); repeat' ((first | ((with_reducible refine al_id ?_); (refine al_cel hp ?_; clear hp; intro bb w hp)) | ((with_reducible refine gen_id ?_); ((refine gen_build (t := 360) (out := hashC [] Sl.nil) rfl (by kernel_rfl) ?_))) | ((with_reducible refine cl_id ?_); ((refine cl_eq (starts_any) rfl rfl ?_; rintro e w ⟨rfl, hcc⟩; replace hp := hp.call0 hcc; refine ⟨_, rfl, ?_⟩)))) <;> (conv => whnf)))
  have hp0 : Hp N0 w0 w [rowR 5 1 u8L Sl.nil, cel bb 360 (hashC [] Sl.nil).toArray] := hp.new (Chg.refl _ _) (rowR_ok.2 ⟨World.ownsRow_nil w 0 _ _, by simp [Sl.nil]⟩) fun b hb => by have h1 := rowR_dom.1 hb; cases h1
  exact ps_of ⟨_, rfl, (hp0.perm (.swap ..)).made (.refl _)⟩
theorem write_any {B : Nat} {w0 : World} {b : Nat} {m : List UInt8} {r p : Sl UInt8} (h : (star (hashRs b m r)).ok w0) (hr : r.l = restS m) (hm : m.length ≤ 1000000) (hpa : SlAt B w0 u8L 1 p) (hpn : p.l.length ≤ 1000000)
    (hn : p.l ≠ [] → ∀ k o, p.A = some ⟨k, o, none⟩ → ¬ (star (hashRs b m r)).dom k) : Calls Tryz.prog 270 #[ptr b, p.v] w0 fun e w' => ∃ r' : Sl UInt8, r'.l = restS (m ++ p.l) ∧ e = .returned (i64 p.l.length) ∧ Mut (star (hashRs b m r)) (star (hashRs b (m ++ p.l) r')) w0 w' := by
  have hp := Hp.open h
  have u1 := Tryz.underlying38
  have hrl : r.l.length = m.length % 64 := by rw [hr, restS_len]
  refine calls_x (args := [_, _]) tabOk Tryz.func270 Tryz.ntmps270 Tryz.results270 rfl (Nat.le_of_ble_eq_true rfl) ?_
  ((conv => whnf); repeat' ((first | ((with_reducible refine br_id ?_); (with_reducible refine br_f ?_)) | ((with_reducible refine ar_id ?_); (refine ar_u64 (by omega) ?_)) | ((with_reducible refine cn_id ?_); (refine cn rfl ?_)) | ((with_reducible refine ld_id ?_); (apply ld_hs hp; (focus ((repeat (first | exact Has.here | apply Has.there)); done)); exact rfl)) | ((with_reducible refine st_id ?_); (apply st_hs hp; (focus ((repeat (first | exact Has.here | apply Has.there)); done)); exact rfl; exact rfl; clear hp; intro w hp; (try dsimp only [List.set] at hp))) | ((with_reducible refine gen_id ?_); first | ((refine gen_app0 rfl hp el_u8 rfl (r) rfl ((hp.row (j := 1) rfl)) (fun _ _ => rfl) u8_one (by (try simp only [List.length_append, List.length_cons, List.length_nil, List.length_map, List.length_replicate, maxLen]); omega) (by (try simp only [List.length_append, List.length_cons, List.length_nil, List.length_map, List.length_replicate, maxLen]); omega) ?_); clear hp; intro A2 c2 w hcc hp) | ((refine gen_app (s := ⟨A2, c2, r.l⟩) rfl hp 0 rfl el_u8 rfl (p) rfl ((hpa.keepS hp.chg hn)) (fun _ _ => rfl) u8_one (by (try simp only [List.length_append, List.length_cons, List.length_nil, List.length_map, List.length_replicate, maxLen]); omega) (by (try simp only [List.length_append, List.length_cons, List.length_nil, List.length_map, List.length_replicate, maxLen]); omega) ?_); clear hp; intro A2 c2 w hp; dsimp only [List.set] at hp) | (apply gen_len; exact rfl; exact rfl; assumption))) <;> (conv => whnf)))
  obtain ⟨R, hR⟩ : ∃ R : Sl UInt8, R = ⟨A2, c2, r.l ++ p.l⟩ := ⟨_, rfl⟩
  have hRl : R.l = restS m ++ p.l := by rw [hR, ← hr]
  have hp : Hp (star (hashRs b m r)).dom w0 w [rowR 5 1 u8L R, cel b 360 (shaC (doneS m) r (m.length + p.l.length)).toArray, rowR 5 1 u8L r] := hR ▸ hp
  refine lp_inv (α := Nat × Sl UInt8) (fun a => [(0, ptr b), (1, p.v), (5, a.2.v)]) (fun a w => 64 * a.1 ≤ R.l.length ∧ Part R a.2 1 (64 * a.1) ∧ Hp (star (hashRs b m r)).dom w0 w [rowR 5 1 u8L R, cel b 360 (shaC (piecesS (doneS m) R.l a.1) r (m.length + p.l.length)).toArray, rowR 5 1 u8L r]) (fun a => R.l.length - 64 * a.1) (0, R) (by rw [hR]; (repeat' (first | exact trivial | (refine ⟨rfl, ?_⟩)))) ⟨by omega, Part.start (hp.row (j := 0) rfl), hp⟩ ?_
  clear hp
  rintro ⟨i, s⟩ e0 w ⟨hi, hsub, hp⟩
  dsimp only at hi hsub hp ⊢
  have hsl : s.l.length = R.l.length - 64 * i := by rw [hsub.l, List.length_drop]
  have hRlen : R.l.length ≤ 1000063 := by rw [hRl, List.length_append, restS_len]; omega
  have hsR := hsub.slat (hp.row (j := 0) rfl)
  rcases Nat.lt_or_ge s.l.length 64 with hlt | hge
  · have hi2 : i = R.l.length / 64 := by omega
    ((conv => whnf); repeat' ((first | ((with_reducible refine br_id ?_); ((with_reducible refine br_dec (fun hx => ?_) (fun hx => ?_)) <;> (try (exfalso; first | omega | exact absurd hx (by assumption) | exact absurd (by assumption) hx)))) | ((with_reducible refine cn_id ?_); (refine cn rfl ?_)) | ((with_reducible refine st_id ?_); (apply st_hs hp; (focus ((repeat (first | exact Has.here | apply Has.there)); done)); exact rfl; exact rfl; clear hp; intro w hp; (try dsimp only [List.set] at hp))) | ((with_reducible refine gen_id ?_); first | ((refine gen_app0 rfl hp el_u8 rfl (s) rfl (hsR) (fun _ _ => rfl) u8_one (by (try simp only [List.length_append, List.length_cons, List.length_nil, List.length_map, List.length_replicate, maxLen]); omega) (by (try simp only [List.length_append, List.length_cons, List.length_nil, List.length_map, List.length_replicate, maxLen]); omega) ?_); clear hp; intro A2 c2 w hcc hp) | (apply gen_len; exact rfl; exact rfl; assumption))) <;> (conv => whnf)))
    have e1 := done_app m p.l
    rw [← hRl, ← hi2] at e1
    have hC : (shaC (piecesS (doneS m) R.l i) ⟨A2, c2, s.l⟩ (m.length + p.l.length)) = hashC (m ++ p.l) ⟨A2, c2, s.l⟩ := by
      unfold hashC
      rw [e1.1, List.length_append]
    have hp : Hp (star (hashRs b m r)).dom w0 w [rowR 5 1 u8L ⟨A2, c2, s.l⟩, rowR 5 1 u8L R, cel b 360 (hashC (m ++ p.l) ⟨A2, c2, s.l⟩).toArray, rowR 5 1 u8L r] := hC ▸ hp
    exact ps_val (v' := i64 p.l.length) rfl ⟨⟨A2, c2, s.l⟩, by show s.l = _; rw [hsub.l, e1.2], rfl, ((hp.sub (List.Sublist.cons_cons _ (List.Sublist.cons _ (List.Sublist.cons_cons _ (List.nil_sublist _))))).perm (.swap ..)).shut (.refl _)⟩
  · ((conv => whnf); repeat' ((first | ((with_reducible refine br_id ?_); ((with_reducible refine br_dec (fun hx => ?_) (fun hx => ?_)) <;> (try (exfalso; first | omega | exact absurd hx (by assumption) | exact absurd (by assumption) hx)))) | ((with_reducible refine cn_id ?_); (refine cn rfl ?_)) | ((with_reducible refine ldn_id ?_); (apply ldn_hs hp; (focus ((repeat (first | exact Has.here | apply Has.there)); done)); exact rfl; exact rfl)) | ((with_reducible refine st_id ?_); (apply st_hs hp; (focus ((repeat (first | exact Has.here | apply Has.there)); done)); exact rfl; exact rfl; clear hp; intro w hp; (try dsimp only [List.set] at hp))) | ((with_reducible refine gen_id ?_); first | ((refine gen_cutl (l := 64) rfl el_u8 s rfl (hsub.slat (hp.row (j := 0) rfl)) rfl rfl (by omega) ?_)) | (apply gen_len; exact rfl; exact rfl; assumption)) | ((with_reducible refine dr_id ?_); (refine dr_auto tabOk (by kernel_rfl) (by decide +kernel) ?_; (try replace hp := hp.drew))) | ((with_reducible refine cl_id ?_); ((refine cl_eq ((take_any (p := s.cut 1 0 64) ((hsub.slat (hp.row (j := 0) rfl)).cut (by omega) (by omega)) (piecesS (doneS m) R.l i) (by rw [Sl.cut_len (by omega)]))) rfl rfl ?_; rintro e w ⟨rfl, hcc⟩; replace hp := hp.call0 hcc; refine ⟨_, rfl, ?_⟩))) | ((with_reducible refine rd_id ?_); ((refine rd_cuth rfl el_u8 s rfl hsR.le (h := 64) rfl rfl (by omega) ?_)))) <;> (conv => whnf)))
    refine lp_next (i + 1, s.cut 1 64 s.l.length) ?_ (by (repeat' (first | exact trivial | (refine ⟨rfl, ?_⟩)))) ⟨by show 64 * (i + 1) ≤ _; omega, by have := hsub.cut hsR.le (k := 64) (by omega); rwa [show 64 * i + 64 = 64 * (i + 1) by omega] at this, ?_⟩
    · show R.l.length - 64 * (i + 1) < R.l.length - 64 * i; omega
    · have e2 : piecesS (doneS m) R.l (i + 1) = takeS (piecesS (doneS m) R.l i) (s.cut 1 0 64).l := by
        show takeS _ _ = takeS _ ((s.l.take 64).drop 0)
        rw [List.drop_zero, hsub.l]
      show Hp _ w0 w [_, cel b _ (shaC (piecesS (doneS m) R.l (i + 1)) r (m.length + p.l.length)).toArray, _]
      rw [e2]
      exact hp
end Go.Proofs.YteabebmlclgakaaGreat
/- Sha3: the end of a hash, its copy, its sum. -/
namespace Go.Proofs.YteabebmlclgakaaGreat
set_option linter.unusedSimpArgs false
set_option linter.unusedVariables false
open Go.RowKit
set_option maxRecDepth 100000
set_option maxHeartbeats 2000000
theorem end_any {w0 : World} {b : Nat} {m : List UInt8} {r : Sl UInt8} (h : (star (hashRs b m r)).ok w0) (hr : r.l = restS m) (hm : m.length ≤ 1000000) : Calls Tryz.prog 281 #[ptr b] w0 fun e w' => ∃ q : Sl UInt8, q.l = endS m.length ∧ e = .returned q.v ∧ Made (rowR 5 1 u8L q) w0 w' := by
  have hp := Hp.start (S := N0) w0
  have u1 := Tryz.underlying38
  have hrl : r.l.length = m.length % 64 := by rw [hr, restS_len]
  have hk : padK m.length < 64 := by unfold padK; omega
  have hb := cel_ok.1 (((star_ok (rs := hashRs b m r)).1 h).1 (cel b 360 (hashC m r).toArray) (by simp [hashRs]))
  have c8 : w0.cell? ⟨b, 8, none⟩ = some r.v := cell_of_heap hb rfl
  have c9 : w0.cell? ⟨b, 9, none⟩ = some (.int .u64 (m.length : Int)) := cell_of_heap hb rfl
  refine calls_x (args := [_]) tabOk Tryz.func281 Tryz.ntmps281 Tryz.results281 rfl (Nat.le_of_ble_eq_true rfl) ?_
  ((conv => whnf); repeat' (((with_reducible refine gen_id ?_); ((refine gen_bs rfl hp el_u8 u8L (([128] : List UInt8)) ((([128] : List UInt8)).map u8) rfl rfl rfl (fun _ hh => rfl) (by omega) ?_); clear hp; intro br w hp)) <;> (conv => whnf)))
  refine lp_inv (α := Nat × Sl UInt8) (fun a => [(0, ptr b), (3, a.2.v)]) (fun a w => a.1 ≤ padK m.length ∧ a.2.l = 128 :: List.replicate a.1 0 ∧ Hp N0 w0 w [rowR 5 1 u8L a.2]) (fun a => padK m.length - a.1) (0, ⟨some ⟨br, 0, none⟩, 1, [128]⟩) (by (repeat' (first | exact trivial | (refine ⟨rfl, ?_⟩)))) ⟨by omega, rfl, hp⟩ ?_
  clear hp
  rintro ⟨k, q⟩ e0 w ⟨hkl, hq, hp⟩
  dsimp only at hkl hq hp ⊢
  have hql : q.l.length = 1 + k := by rw [hq]; simp; omega
  have hmod := tmod_n (r.l.length + q.l.length + 8) 64
  have hcast : ((r.l.length : Int) + (q.l.length : Int) + 8) = ((r.l.length + q.l.length + 8 : Nat) : Int) := by omega
  have c8' := hp.chg.cell0 c8
  have c9' := hp.chg.cell0 c9
  rcases Nat.lt_or_ge k (padK m.length) with hlt | hge
  · have hne : (r.l.length + q.l.length + 8) % 64 ≠ 0 := by unfold padK at hlt; omega
    ((conv => whnf); repeat' ((first | ((with_reducible refine br_id ?_); ((refine br_1 (by rw [hcast, show (64 : Int) = ((64 : Nat) : Int) from rfl, hmod]; simp only [bne_iff_ne]; omega) ?_))) | ((with_reducible refine ar_id ?_); (refine ar_i64 (by omega) ?_)) | ((with_reducible refine cn_id ?_); (refine cn (by omega) ?_)) | ((with_reducible refine ld_id ?_); ((refine ld_of c8' ?_))) | ((with_reducible refine gen_id ?_); first | ((refine gen_bs rfl hp el_u8 u8L (([0] : List UInt8)) ((([0] : List UInt8)).map u8) rfl rfl rfl (fun _ hh => rfl) (by omega) ?_); clear hp; intro br w hp) | ((refine gen_app (s := q) rfl hp 1 rfl el_u8 rfl ⟨some ⟨br, 0, none⟩, 1, ([0] : List UInt8)⟩ rfl (hp.row (j := 0) rfl) (fun _ _ => rfl) u8_one (by simp only [List.length_cons, List.length_nil]; omega) (by simp only [maxLen, List.length_cons, List.length_nil]; omega) ?_); clear hp; intro A2 c2 w hp; dsimp only [List.set] at hp) | (apply gen_len; exact rfl; exact rfl; assumption))) <;> (conv => whnf)))
    refine lp_next (k + 1, ⟨A2, c2, q.l ++ [0]⟩) ?_ (by (repeat' (first | exact trivial | (refine ⟨rfl, ?_⟩)))) ⟨by show k + 1 ≤ _; omega, by show q.l ++ [0] = _; rw [hq, List.cons_append, ← List.replicate_succ'], hp.sub (List.sublist_cons_self _ _)⟩
    show padK m.length - (k + 1) < padK m.length - k
    omega
  · obtain rfl : k = padK m.length := by omega
    have he : (r.l.length + q.l.length + 8) % 64 = 0 := by unfold padK at hql; omega
    ((conv => whnf); repeat' ((first | ((with_reducible refine br_id ?_); ((refine br_0 (by rw [hcast, show (64 : Int) = ((64 : Nat) : Int) from rfl, hmod, he]; rfl) ?_))) | ((with_reducible refine ar_id ?_); first | ((refine ar_u4 (8 * m.length / 2 ^ 32) rfl ?_)) | ((refine ar_u4 (8 * m.length) rfl ?_)) | (refine ar_i64 (by omega) ?_) | (refine ar_u64 (by omega) ?_)) | ((with_reducible refine cn_id ?_); (refine cn (by omega) ?_)) | ((with_reducible refine ld_id ?_); first | ((refine ld_of c8' ?_)) | ((refine ld_of c9' ?_))) | ((with_reducible refine gen_id ?_); first | ((refine gen_shr64 rfl (8 * m.length) 32 rfl rfl rfl (by omega) ?_)) | ((refine gen_bs rfl hp el_u4 u4L ([UInt32.ofNat (8 * m.length / 2 ^ 32), UInt32.ofNat (8 * m.length)]) (([UInt32.ofNat (8 * m.length / 2 ^ 32), UInt32.ofNat (8 * m.length)]).map u4) rfl rfl rfl (fun _ hh => rfl) (by omega) ?_); clear hp; intro br w hp) | (apply gen_len; exact rfl; exact rfl; assumption))) <;> (conv => whnf)))
    refine cl_of (bytes_any (s := ⟨some ⟨br, 0, none⟩, 2, [UInt32.ofNat (8 * m.length / 2 ^ 32), UInt32.ofNat (8 * m.length)]⟩) (hp.row (j := 0) rfl) (Nat.le_of_ble_eq_true rfl)) ?_
    rintro e w ⟨x, hx, rfl, hmd⟩
    replace hp := hp.add hmd
    clear hmd
    refine ⟨_, rfl, ?_⟩
    have hxl : x.l.length = 8 := by rw [hx, bytesOf_len]; rfl
    ((conv => whnf); repeat' (((with_reducible refine gen_id ?_); ((refine gen_app (s := q) rfl hp 2 rfl el_u8 rfl (x) rfl ((hp.row (j := 0) rfl)) (fun _ _ => rfl) u8_one (by (try simp only [List.length_append, List.length_cons, List.length_nil, List.length_map, List.length_replicate, maxLen]); omega) (by (try simp only [List.length_append, List.length_cons, List.length_nil, List.length_map, List.length_replicate, maxLen]); omega) ?_); clear hp; intro A2 c2 w hp; dsimp only [List.set] at hp)) <;> (conv => whnf)))
    refine ps_val (v' := (Sl.mk A2 c2 (q.l ++ x.l)).v) rfl ⟨⟨A2, c2, q.l ++ x.l⟩, ?_, rfl, hp.made1 (j := 2) rfl⟩
    show q.l ++ x.l = _
    rw [hq, hx, be8_of _ (by omega), endS, Nat.mod_eq_of_lt (by omega : 8 * m.length < 2 ^ 64)]
    rfl
theorem clone_any {w0 : World} {b : Nat} {m : List UInt8} {r : Sl UInt8} (h : (star (hashRs b m r)).ok w0) (hr : r.l = restS m) : Calls Tryz.prog 280 #[ptr b] w0 fun e w' => ∃ b' r', r'.l = r.l ∧ e = .returned (ptr b') ∧ Made (star (hashRs b' m r')) w0 w' := by
  have hp := Hp.start (S := N0) w0
  have hrl : r.l.length = m.length % 64 := by rw [hr, restS_len]
  have hb := cel_ok.1 (((star_ok (rs := hashRs b m r)).1 h).1 (cel b 360 (hashC m r).toArray) (by simp [hashRs]))
  have hrow := rowR_at (((star_ok (rs := hashRs b m r)).1 h).1 (rowR 5 1 u8L r) (by simp [hashRs]))
  have c8 : w0.cell? ⟨b, 8, none⟩ = some r.v := cell_of_heap hb rfl
  refine calls_x (args := [_]) tabOk Tryz.func280 Tryz.ntmps280 Tryz.results280 rfl (Nat.le_of_ble_eq_true rfl) ?_
  ((conv => whnf); repeat' ((first | ((with_reducible refine br_id ?_); (with_reducible refine br_f ?_)) | ((with_reducible refine cn_id ?_); (refine cn rfl ?_)) | ((with_reducible refine ld_id ?_); ((refine ld_of (hp.chg.cell0 c8) ?_))) | ((with_reducible refine ldn_id ?_); ((refine ldn_of (cs := hashC m r) rfl (fun i v hv => by rw [add_plain, Nat.zero_add]; exact hp.chg.cell0 (cell_of_heap hb (by simpa using hv))) ?_))) | ((with_reducible refine al_id ?_); (refine al_cel hp ?_; clear hp; intro bb w hp)) | ((with_reducible refine st_id ?_); first | (apply sta_hs hp; (focus ((repeat (first | exact Has.here | apply Has.there)); done)); exact rfl; exact rfl; clear hp; intro w hp; (try dsimp only [List.set] at hp)) | (apply st_hs hp; (focus ((repeat (first | exact Has.here | apply Has.there)); done)); exact rfl; exact rfl; clear hp; intro w hp; (try dsimp only [List.set] at hp))) | ((with_reducible refine gen_id ?_); ((refine gen_app0 rfl hp el_u8 rfl (r) rfl ((hrow.keep hp.chg fun _ hh => hh.elim)) (fun _ _ => rfl) u8_one (by (try simp only [List.length_append, List.length_cons, List.length_nil, List.length_map, List.length_replicate, maxLen]); omega) (by (try simp only [List.length_append, List.length_cons, List.length_nil, List.length_map, List.length_replicate, maxLen]); omega) ?_); clear hp; intro A2 c2 w hcc hp))) <;> (conv => whnf)))
  exact ps_of ⟨bb, ⟨A2, c2, r.l⟩, rfl, rfl, (hp.perm (.swap ..)).made (.refl _)⟩
theorem hsum_any {w0 : World} {b : Nat} {m : List UInt8} {r : Sl UInt8} (h : (star (hashRs b m r)).ok w0) (hr : r.l = restS m) (hm : m.length ≤ 900000) : Calls Tryz.prog 271 #[ptr b] w0 fun e w' => e = .returned (shaV m).v ∧ Chg N0 w0 w' := by
  have hp := Hp.start (S := N0) w0
  refine calls_x (args := [_]) tabOk Tryz.func271 Tryz.ntmps271 Tryz.results271 rfl (Nat.le_of_ble_eq_true rfl) ?_
  ((conv => whnf); repeat' (((with_reducible refine al_id ?_); (refine al_cel hp ?_; clear hp; intro bb w hp)) <;> (conv => whnf)))
  refine cl_of (clone_any ((star (hashRs b m r)).keep0 h hp.chg) hr) ?_
  rintro e w ⟨b', r', hr', rfl, hmd⟩
  replace hp := hp.add hmd
  clear hmd
  refine ⟨_, rfl, ?_⟩
  ((conv => whnf); repeat' (((with_reducible refine br_id ?_); (with_reducible refine br_f ?_)) <;> (conv => whnf)))
  refine cl_of (end_any (hp.get (j := 0) rfl) (hr'.trans hr) (by omega)) ?_
  rintro e w ⟨q, hq, rfl, hmd⟩
  replace hp := hp.add hmd
  clear hmd
  refine ⟨_, rfl, ?_⟩
  have hql : q.l.length ≤ 200 := by
    rw [hq]
    simp only [endS, be8, List.length_append, List.length_cons, List.length_replicate, List.length_nil, padK]
    omega
  have hsep : q.l ≠ [] → ∀ k o, q.A = some ⟨k, o, none⟩ → ¬ (star (hashRs b' m r')).dom k := fun _ k o hA => (List.pairwise_cons.1 hp.sep).1 (star (hashRs b' m r')) (by simp) k (rowR_dom.2 (by simp [Sl.v, Value.ownBlock, hA]))
  ((conv => whnf); repeat' ((first | ((with_reducible refine br_id ?_); first | (with_reducible refine br_t ?_) | (with_reducible refine br_f ?_) | (with_reducible refine br_not ?_) | ((with_reducible refine br_dec (fun hx => ?_) (fun hx => ?_)) <;> (try (exfalso; first | omega | exact absurd hx (by assumption) | exact absurd (by assumption) hx))) | ((with_reducible refine br_eq (fun hx => ?_) (fun hx => ?_)) <;> (try (exfalso; first | omega | exact absurd hx (by assumption) | exact absurd (by assumption) hx))) | ((with_reducible refine br_ne (fun hx => ?_) (fun hx => ?_)) <;> (try (exfalso; first | omega | exact absurd hx (by assumption) | exact absurd (by assumption) hx))) | ((with_reducible refine br_s (fun hx => ?_) (fun hx => ?_)) <;> (try (exfalso; first | omega | exact absurd hx (by assumption) | exact absurd (by assumption) hx)))) | ((with_reducible refine ar_id ?_); first | (refine ar_i64 (by omega) ?_) | (refine ar_u32 (by omega) ?_) | (refine ar_u64 (by omega) ?_) | (refine ar_u8 (by omega) ?_)) | ((with_reducible refine cn_id ?_); first | (refine cn rfl ?_) | (refine cn (by assumption) ?_) | (refine cn (by omega) ?_) | (refine cn (Chg.refl _ _) ?_)) | ((with_reducible refine ld_id ?_); first | (apply ld_hs hp; (focus ((repeat (first | exact Has.here | apply Has.there)); done)); exact rfl) | (refine ld_of (by assumption) ?_)) | ((with_reducible refine ldn_id ?_); first | (apply lda_hs hp; (focus ((repeat (first | exact Has.here | apply Has.there)); done)); exact rfl) | (apply ldn_hs hp; (focus ((repeat (first | exact Has.here | apply Has.there)); done)); exact rfl; exact rfl)) | ((with_reducible refine al_id ?_); (refine al_cel hp ?_; clear hp; intro bb w hp)) | ((with_reducible refine st_id ?_); first | (apply sta_hs hp; (focus ((repeat (first | exact Has.here | apply Has.there)); done)); exact rfl; exact rfl; clear hp; intro w hp; (try dsimp only [List.set] at hp)) | (apply st_hs hp; (focus ((repeat (first | exact Has.here | apply Has.there)); done)); exact rfl; exact rfl; clear hp; intro w hp; (try dsimp only [List.set] at hp))) | ((with_reducible refine gen_id ?_); first | (apply gen_build; exact rfl; exact rfl) | (apply gen_len; exact rfl; exact rfl; assumption) | (apply gen_min; exact rfl; exact rfl; exact rfl) | (apply gen_max; exact rfl; exact rfl; exact rfl) | (apply gen_ix; exact rfl; exact rfl; exact rfl; exact rfl; omega) | (apply gen_ixa; exact rfl; exact rfl; exact rfl; exact rfl; omega)) | ((with_reducible refine dr_id ?_); first | (refine dr_auto tabOk (by kernel_rfl) (by decide +kernel) ?_; (try replace hp := hp.drew)) | (refine dr_autog tabOk (by kernel_rfl) (by decide +kernel) ?_; (try replace hp := hp.drew)) | (refine dr_autot tabOk (by kernel_rfl) (by decide +kernel) ?_; (try replace hp := hp.drew))) | ((with_reducible refine fk_id ?_); (refine fk_mk ?_ ?_)) | ((with_reducible refine rd_id ?_); first | (apply rd_len; exact rfl; exact rfl; assumption) | (apply rd_ix; exact rfl; exact rfl; exact rfl; exact rfl; omega))) <;> (conv => whnf)))
  refine cl_of (write_any (hp.get (j := 1) rfl) (hr'.trans hr) (by omega) (hp.row (j := 0) rfl) (by omega) hsep) ?_
  rintro e w ⟨r2, hr2, rfl, hmd⟩
  replace hp := hp.via (j := 1) rfl hmd
  dsimp only [List.set] at hp
  clear hmd hsep
  refine ⟨_, rfl, ?_⟩
  replace hp := (hp.perm (.swap ..)).unfold
  dsimp only [List.cons_append, List.nil_append] at hp
  obtain ⟨S2, hS2⟩ : ∃ S2, doneS (m ++ q.l) = S2 := ⟨_, rfl⟩
  ((conv => whnf); repeat' ((first | ((with_reducible refine dr_id ?_); (refine dr_autog tabOk (by kernel_rfl) (by decide +kernel) ?_; (try replace hp := hp.drew))) | ((with_reducible refine rd_id ?_); first | ((refine rd_arr rfl Tryz.underlying44 rfl rfl (List.replicate 32 (0 : UInt8)) rfl ?_)) | ((refine rd_arr rfl Tryz.underlying357 rfl rfl (doneS (m ++ q.l)).l rfl ?_)))) <;> (conv => whnf)))
  have hsl := cel_slat (enc := u4L) (sz := 1) (ofs := 0) (l := (doneS (m ++ q.l)).l) hp (j := 0) rfl (fun _ _ => rfl) rfl (Nat.le_of_ble_eq_true rfl)
  refine cl_of (bytes_any (s := arrS b' 0 (doneS (m ++ q.l)).l) hsl (Nat.le_of_ble_eq_true rfl)) ?_
  rintro e w ⟨x, hx, rfl, hmd⟩
  replace hp := hp.add hmd
  have hcc := hmd.chg
  clear hmd hsl
  refine ⟨_, rfl, ?_⟩
  have hX : x.l = shaL m := by rw [hx, sha_of, ← hq]; rfl
  have hXl : x.l.length = 32 := by rw [hX, shaL_len]
  ((conv => whnf); repeat' ((first | ((with_reducible refine cn_id ?_); (refine cn (by assumption) ?_)) | ((with_reducible refine gen_id ?_); ((refine gen_copy rfl hp 4 rfl el_u8 rfl x rfl (hp.row (j := 0) rfl) (fun hh => by rw [hh] at hXl; cases hXl) (fun _ _ => rfl) u8_one (n := 32) (by rw [hXl]; rfl) (by decide) ?_); clear hp; intro w hp; dsimp only [List.set] at hp))) <;> (conv => whnf)))
  have hcs : (List.take 0 (rep 32 i_u8).cells.toList ++ List.flatMap u8L (List.take 32 x.l) ++ List.drop (0 + 32) (rep 32 i_u8).cells.toList).toArray = (idOf x.l hXl).c.toArray := by
    rw [List.take_of_length_le (l := x.l) (by omega), flat_one, ← idOf_c]
    simp only [arC, List.take_zero, List.nil_append]
    congr 1
    exact List.append_nil _
  rw [hcs] at hp
  clear hcs
  obtain ⟨X, hXX⟩ : ∃ X, idOf x.l hXl = X := ⟨_, rfl⟩
  have hXV : X = shaV m := by rw [← hXX]; unfold shaV; congr 1
  rw [hXX] at hp
  ((conv => whnf); repeat' ((first | ((with_reducible refine cn_id ?_); (refine cn rfl ?_)) | ((with_reducible refine ldn_id ?_); (apply lda_hs hp; (focus ((repeat (first | exact Has.here | apply Has.there)); done)); exact rfl)) | ((with_reducible refine st_id ?_); (apply sta_hs hp; (focus ((repeat (first | exact Has.here | apply Has.there)); done)); exact rfl; exact rfl; clear hp; intro w hp; (try dsimp only [List.set] at hp)))) <;> (conv => whnf)))
  exact ps_val (v' := X.v) rfl ⟨by rw [hXV], hp.chg⟩
/-- parts of bytes -/
abbrev prtL (s : Sl UInt8) : List Value := [s.v]
theorem ssum_any {B : Nat} {w0 : World} {ps : Sl (Sl UInt8)} (h : SlAt B w0 prtL 1 ps) (hBw : B ≤ w0.heap.size) (hps : ∀ s ∈ ps.l, SlAt B w0 u8L 1 s) (hn : (ps.l.flatMap (·.l)).length ≤ 900000) : Calls Tryz.prog 248 #[ps.v] w0 fun e w' => e = .returned (shaV (ps.l.flatMap (·.l))).v ∧ Chg N0 w0 w' := by
  have hp := Hp.start (S := N0) w0
  have hB : ∀ b, N0 b → B ≤ b := fun _ hh => hh.elim
  have u1 := Tryz.underlying319
  have hmax : ps.l.length ≤ 9223372036854775807 := by have := h.le; have := h.max; simp only [maxLen] at this; omega
  refine calls_x (args := [_]) tabOk Tryz.func248 Tryz.ntmps248 Tryz.results248 rfl (Nat.le_of_ble_eq_true rfl) ?_
  ((conv => whnf); repeat' (((with_reducible refine al_id ?_); (refine al_cel hp ?_; clear hp; intro bb w hp)) <;> (conv => whnf)))
  refine cl_of new_any ?_
  rintro e w ⟨b, rfl, hmd⟩
  replace hp := hp.add hmd
  clear hmd
  refine ⟨_, rfl, ?_⟩
  obtain ⟨b2, hb2⟩ : ∃ b2, b2 = bb := ⟨_, rfl⟩
  subst hb2
  ((conv => whnf); repeat' (((with_reducible refine gen_id ?_); (apply gen_len; exact rfl; exact rfl; assumption)) <;> (conv => whnf)))
  refine lp_inv (α := Nat × Sl UInt8) (fun a => [(2, ptr b2), (3, ptr b), (7, ps.v), (8, i64 ps.l.length), (9, i64 a.1)]) (fun a w => a.1 ≤ ps.l.length ∧ a.2.l = restS ((ps.l.take a.1).flatMap (·.l)) ∧ Hp N0 w0 w [star (hashRs b ((ps.l.take a.1).flatMap (·.l)) a.2), cel b2 44 (rep 32 i_u8).cells]) (fun a => ps.l.length - a.1) (0, Sl.nil) (by (repeat' (first | exact trivial | (refine ⟨rfl, ?_⟩)))) ⟨by omega, by simp only [List.take_zero, List.flatMap_nil]; rfl, by simp only [List.take_zero, List.flatMap_nil]; exact hp⟩ ?_
  clear hp
  rintro ⟨i, r⟩ e0 w ⟨hi, hr, hp⟩
  dsimp only at hi hr hp ⊢
  have hlen : ((ps.l.take i).flatMap (·.l)).length ≤ 900000 := by
    have h1 : ((ps.l.take i).flatMap (·.l)) ++ ((ps.l.drop i).flatMap (·.l)) = ps.l.flatMap (·.l) := by rw [← List.flatMap_append, List.take_append_drop]
    have h2 := congrArg List.length h1
    rw [List.length_append] at h2
    omega
  rcases Nat.lt_or_ge i ps.l.length with hlt | hge
  · obtain ⟨bb, o, x, hA, hb, hrow, hxx⟩ := h.has hlt
    have hmem := List.mem_of_getElem? hxx
    have hxl : x.l.length ≤ 900000 := by
      have h1 : ((ps.l.take i).flatMap (·.l)) ++ ((ps.l.drop i).flatMap (·.l)) = ps.l.flatMap (·.l) := by rw [← List.flatMap_append, List.take_append_drop]
      rw [List.getElem?_eq_getElem hlt] at hxx
      have h3 := Option.some.inj hxx
      rw [List.drop_eq_getElem_cons hlt, List.flatMap_cons, h3] at h1
      have h2 := congrArg List.length h1
      rw [List.length_append, List.length_append] at h2
      omega
    have hxa := hps x hmem
    ((conv => whnf); repeat' ((first | ((with_reducible refine br_id ?_); ((with_reducible refine br_dec (fun hx => ?_) (fun hx => ?_)) <;> (try (exfalso; first | omega | exact absurd hx (by assumption) | exact absurd (by assumption) hx)))) | ((with_reducible refine ld_id ?_); ((refine ld_row0 hp hB (by assumption) (by assumption) _ rfl (by assumption) (by rfl) ?_))) | ((with_reducible refine gen_id ?_); ((refine gen_ixs rfl rfl (by assumption) rfl rfl (by omega) ?_)))) <;> (conv => whnf)))
    refine cl_of (write_any (hp.get (j := 0) rfl) hr (by omega) (hxa.keep hp.chg hB) (by omega) (fun hne k o hk hd => ?_)) ?_
    · have h1 := (hp.own _ (by simp) k hd).resolve_left (fun hh => hh)
      obtain ⟨b', o', h4, h5, _⟩ := hxa.row hne
      rw [hk] at h4
      cases h4
      omega
    · rintro e w ⟨r2, hr2, rfl, hmd⟩
      replace hp := hp.via (j := 0) rfl hmd
      dsimp only [List.set] at hp
      clear hmd
      refine ⟨_, rfl, ?_⟩
      have htk : (ps.l.take (i + 1)).flatMap (·.l) = (ps.l.take i).flatMap (·.l) ++ x.l := by
        rw [List.take_add_one, hxx, List.flatMap_append]
        simp
      ((conv => whnf); repeat' (((with_reducible refine ar_id ?_); (refine ar_i64 (by omega) ?_)) <;> (conv => whnf)))
      refine lp_next (i + 1, r2) ?_ (by (repeat' (first | exact trivial | (refine ⟨rfl, ?_⟩)))) ⟨by show i + 1 ≤ _; omega, by show r2.l = restS ((ps.l.take (i + 1)).flatMap (·.l)); rw [htk, hr2], ?_⟩
      · show ps.l.length - (i + 1) < ps.l.length - i; omega
      · show Hp N0 w0 w [star (hashRs b ((ps.l.take (i + 1)).flatMap (·.l)) r2), _]
        rw [htk]
        exact hp
  · rw [List.take_of_length_le hge] at hr hp hlen
    ((conv => whnf); repeat' (((with_reducible refine br_id ?_); ((with_reducible refine br_dec (fun hx => ?_) (fun hx => ?_)) <;> (try (exfalso; first | omega | exact absurd hx (by assumption) | exact absurd (by assumption) hx)))) <;> (conv => whnf)))
    refine cl_of (hsum_any (hp.get (j := 0) rfl) hr hlen) ?_
    rintro e w ⟨rfl, hc⟩
    replace hp := hp.call0 hc
    refine ⟨_, rfl, ?_⟩
    obtain ⟨X, hX⟩ : ∃ X, shaV (ps.l.flatMap (·.l)) = X := ⟨_, rfl⟩
    rw [hX]
    ((conv => whnf); repeat' ((first | ((with_reducible refine cn_id ?_); (refine cn rfl ?_)) | ((with_reducible refine ldn_id ?_); (apply lda_hs hp; (focus ((repeat (first | exact Has.here | apply Has.there)); done)); exact rfl)) | ((with_reducible refine st_id ?_); (apply sta_hs hp; (focus ((repeat (first | exact Has.here | apply Has.there)); done)); exact rfl; exact rfl; clear hp; intro w hp; (try dsimp only [List.set] at hp)))) <;> (conv => whnf)))
    exact ps_val (v' := X.v) rfl ⟨rfl, hp.chg⟩
end Go.Proofs.YteabebmlclgakaaGreat
/- Prt: rows of byte slices. No condition. -/
namespace Go.Proofs.YteabebmlclgakaaGreat
set_option linter.unusedSimpArgs false
set_option linter.unusedVariables false
open Go.RowKit
set_option maxRecDepth 100000
set_option maxHeartbeats 2000000
theorem el_prt : ElT Tryz.prog 319 38 1 24 := elt_of (z := .slice none 0 0) Tryz.underlying319 (by kernel_rfl) rfl (by omega)
end Go.Proofs.YteabebmlclgakaaGreat
/- Pay: payloads: ids, places, whether two are the same, copies. -/
namespace Go.Proofs.YteabebmlclgakaaGreat
set_option linter.unusedSimpArgs false
set_option linter.unusedVariables false
open Go.RowKit
set_option maxRecDepth 100000
set_option maxHeartbeats 2000000
theorem rid_any {B : Nat} {w0 : World} {s : Sl UInt8} (h : SlAt B w0 u8L 1 s) (hn : s.l.length ≤ 900000) : Calls Tryz.prog 19 #[s.v] w0 fun e w' => e = .returned (shaV s.l).v ∧ Chg N0 w0 w' := by
  have hp := Hp.start (S := N0) w0
  have hB : ∀ b, N0 b → B ≤ b := fun _ hh => hh.elim
  obtain ⟨X, hX⟩ : ∃ X, shaV s.l = X := ⟨_, rfl⟩
  refine calls_x (args := [_]) tabOk Tryz.func19 Tryz.ntmps19 Tryz.results19 rfl (Nat.le_of_ble_eq_true rfl) ?_
  ((conv => whnf); repeat' (((with_reducible refine al_id ?_); (refine al_cel hp ?_; clear hp; intro bb w hp)) <;> (conv => whnf)))
  refine cl_of (sum02_any (h.keep hp.chg hB) (by omega)) ?_
  rintro e w ⟨rfl, hc⟩
  replace hp := hp.call0 hc
  refine ⟨_, rfl, ?_⟩
  rw [hX]
  ((conv => whnf); repeat' ((first | ((with_reducible refine cn_id ?_); (refine cn rfl ?_)) | ((with_reducible refine ldn_id ?_); (apply lda_hs hp; (focus ((repeat (first | exact Has.here | apply Has.there)); done)); exact rfl)) | ((with_reducible refine st_id ?_); (apply sta_hs hp; (focus ((repeat (first | exact Has.here | apply Has.there)); done)); exact rfl; exact rfl; clear hp; intro w hp; (try dsimp only [List.set] at hp)))) <;> (conv => whnf)))
  exact ps_val (v' := X.v) rfl ⟨rfl, hp.chg⟩
theorem txid_any {B : Nat} {w0 : World} {s : Sl UInt8} (h : SlAt B w0 u8L 1 s) (hBw : B ≤ w0.heap.size) (hn : s.l.length ≤ 900000) : Calls Tryz.prog 225 #[s.v] w0 fun e w' => e = .returned (shaV s.l).v ∧ Chg N0 w0 w' := by
  have hp := Hp.start (S := N0) w0
  have hB : ∀ b, N0 b → B ≤ b := fun _ hh => hh.elim
  obtain ⟨X, hX⟩ : ∃ X, shaV s.l = X := ⟨_, rfl⟩
  refine calls_x (args := [_]) tabOk Tryz.func225 Tryz.ntmps225 Tryz.results225 rfl (Nat.le_of_ble_eq_true rfl) ?_
  ((conv => whnf); repeat' ((first | ((with_reducible refine al_id ?_); (refine al_cel hp ?_; clear hp; intro bb w hp)) | ((with_reducible refine gen_id ?_); ((refine gen_bs rfl hp el_prt prtL [s] [s.v] rfl rfl rfl (fun _ hh => by simp at hh; subst hh; rfl) (by omega) ?_); clear hp; intro br w hp))) <;> (conv => whnf)))
  refine cl_of (ssum_any (ps := ⟨some ⟨br, 0, none⟩, 1, [s]⟩) (hp.row (j := 0) rfl) (Nat.le_refl _) (fun x hx => ?_) (by simpa using hn)) ?_
  · simp at hx
    subst hx
    exact (h.keep hp.chg hB).more (Nat.le_trans hBw hp.chg.size)
  rintro e w ⟨rfl, hc⟩
  replace hp := hp.call0 hc
  refine ⟨_, rfl, ?_⟩
  rw [show (Sl.mk (some ⟨br, 0, none⟩) 1 [s]).l.flatMap (fun x => x.l) = s.l from List.append_nil _, hX]
  ((conv => whnf); repeat' ((first | ((with_reducible refine cn_id ?_); (refine cn rfl ?_)) | ((with_reducible refine ldn_id ?_); (apply lda_hs hp; (focus ((repeat (first | exact Has.here | apply Has.there)); done)); exact rfl)) | ((with_reducible refine st_id ?_); (apply sta_hs hp; (focus ((repeat (first | exact Has.here | apply Has.there)); done)); exact rfl; exact rfl; clear hp; intro w hp; (try dsimp only [List.set] at hp)))) <;> (conv => whnf)))
  exact ps_val (v' := X.v) rfl ⟨rfl, hp.chg⟩
def fewP (p : Payload) : Bool := p.l.all (fun t => decide (t.tx.l.length ≤ 200)) && decide (p.l.length ≤ 20)
theorem fewP_at {p : Payload} (h : fewP p = true) : (∀ t ∈ p.l, t.tx.l.length ≤ 200) ∧ p.l.length ≤ 20 := by
  unfold fewP at h
  simpa using h
theorem few13_any {B : Nat} {w0 : World} {p : Payload} (h : PayAt B w0 p) : Calls Tryz.prog 42 #[p.pv] w0 fun e w' => e = .returned (.bool (fewP p)) ∧ Chg N0 w0 w' := by
  have hp := Hp.start (S := N0) w0
  have hB : ∀ b, N0 b → B ≤ b := fun _ hh => hh.elim
  have u1 := Tryz.underlying45
  have u2 := Tryz.underlying38
  have hmax : p.l.length ≤ 9223372036854775807 := by have := h.row.le; have := h.row.max; simp only [maxLen] at this; omega
  refine calls_x (args := [_]) tabOk Tryz.func42 Tryz.ntmps42 Tryz.results42 rfl (Nat.le_of_ble_eq_true rfl) ?_
  ((conv => whnf); repeat' (((with_reducible refine al_id ?_); (refine al_cel hp ?_; clear hp; intro bb w hp)) <;> (conv => whnf)))
  refine lp_inv (α := Nat) (fun i => [(1, ptr bb), (3, i64 i)]) (fun i w => i ≤ p.l.length ∧ (∀ t ∈ p.l.take i, t.tx.l.length ≤ 200) ∧ Hp N0 w0 w [cel bb 47 #[p.v]]) (fun i => p.l.length - i) 0 (by (repeat' (first | exact trivial | (refine ⟨rfl, ?_⟩)))) ⟨by omega, by simp, hp⟩ ?_
  clear hp
  rintro i e0 w ⟨hi, hall, hp⟩
  rcases Nat.lt_or_ge i p.l.length with hlt | hge
  · obtain ⟨b, o, x, hA, hb, hrow, hxx⟩ := h.row.has hlt
    have hmem := List.mem_of_getElem? hxx
    ((conv => whnf); repeat' ((first | ((with_reducible refine br_id ?_); ((with_reducible refine br_dec (fun hx => ?_) (fun hx => ?_)) <;> (try (exfalso; first | omega | exact absurd hx (by assumption) | exact absurd (by assumption) hx)))) | ((with_reducible refine ar_id ?_); (refine ar_i64 (by omega) ?_)) | ((with_reducible refine ld_id ?_); first | ((refine ld_row hp hB (by assumption) (by assumption) _ _ rfl (by assumption) (by rfl) ?_)) | (apply ld_hs hp; (focus ((repeat (first | exact Has.here | apply Has.there)); done)); exact rfl)) | ((with_reducible refine gen_id ?_); first | ((refine gen_ixs rfl rfl (by assumption) rfl rfl (by omega) ?_)) | (apply gen_len; exact rfl; exact rfl; assumption))) <;> (conv => whnf)))
    · refine ps_val (v' := .bool false) rfl ⟨?_, hp.chg⟩
      have h1 : fewP p = false := by
        unfold fewP
        rw [Bool.and_eq_false_iff]
        left
        rw [List.all_eq_false]
        exact ⟨x, hmem, by simp only [decide_eq_true_eq]; omega⟩
      rw [h1]
    · refine lp_next (i + 1) (by omega) (by (repeat' (first | exact trivial | (refine ⟨rfl, ?_⟩)))) ⟨by omega, fun t ht => ?_, hp⟩
      rw [List.take_add_one, hxx] at ht
      rcases List.mem_append.1 ht with ht | ht
      · exact hall t ht
      · simp at ht
        subst ht
        omega
  · ((conv => whnf); repeat' ((first | ((with_reducible refine br_id ?_); ((with_reducible refine br_dec (fun hx => ?_) (fun hx => ?_)) <;> (try (exfalso; first | omega | exact absurd hx (by assumption) | exact absurd (by assumption) hx)))) | ((with_reducible refine ld_id ?_); (apply ld_hs hp; (focus ((repeat (first | exact Has.here | apply Has.there)); done)); exact rfl)) | ((with_reducible refine gen_id ?_); (apply gen_len; exact rfl; exact rfl; assumption))) <;> (conv => whnf)))
    refine ps_val (v' := .bool (decide ((p.l.length : Int) ≤ 20))) rfl ⟨?_, hp.chg⟩
    rw [List.take_of_length_le hge] at hall
    have h1 : fewP p = decide ((p.l.length : Int) ≤ 20) := by
      unfold fewP
      rw [List.all_eq_true.2 (fun x hx => decide_eq_true (hall x hx)), Bool.true_and]
      exact decide_eq_decide.2 (by omega)
    rw [h1]
end Go.Proofs.YteabebmlclgakaaGreat
