/- Writer: what a writer comes to. -/
import Derived.Test.YteabebmlclgakaaGreatMImprintRests21
import Derived.Test.YteabebmlclgakaaGreatMImprintRests16
namespace Go.Proofs.YteabebmlclgakaaGreat
set_option linter.unusedSimpArgs false
set_option linter.unusedVariables false
open Go.RowKit
set_option maxRecDepth 100000
set_option maxHeartbeats 2000000
abbrev wrC (room : Nat) (s : Sl UInt8) (bad : Int) : Array Value := #[.bool true, i64 room, s.v, i64 bad]
abbrev wrRs (b room : Nat) (s : Sl UInt8) (bad : Int) : List Res := [cel b 290 (wrC room s bad), rowR 5 1 u8L s]
theorem wnew_any {w0 : World} (n : Nat) (hn : n ≤ 2000000000) : Calls Tryz.prog 162 #[i64 n] w0 fun e w' => ∃ b, e = .returned (ptr b) ∧ Made (star (wrRs b n Sl.nil 0)) w0 w' := by
  have hp := Hp.start (S := N0) w0
  have hm : max (n : Int) 0 = n := by omega
  refine calls_x (args := [_]) tabOk Tryz.func162 Tryz.ntmps162 Tryz.results162 rfl (Nat.le_of_ble_eq_true rfl) ?_
  ((conv => whnf); repeat' ((first | ((with_reducible refine al_id ?_); (refine al_cel hp ?_; clear hp; intro bb w hp)) | ((with_reducible refine gen_id ?_); first | (apply gen_build; exact rfl; exact rfl) | (apply gen_max; exact rfl; exact rfl; exact rfl))) <;> (conv => whnf)))
  rw [hm] at hp
  have hp0 : Hp N0 w0 w [rowR 5 1 u8L Sl.nil, cel bb 290 (wrC n Sl.nil 0)] := hp.new (Chg.refl _ _) (rowR_ok.2 ⟨World.ownsRow_nil w 0 _ _, by simp [Sl.nil]⟩) fun b hb => by have h1 := rowR_dom.1 hb; cases h1
  exact ps_of ⟨_, rfl, (hp0.perm (.swap ..)).made (.refl _)⟩
theorem wnone_any {w0 : World} {b room : Nat} {A : Option Addr} {n c : Nat} {bad : Int} (h : w0.heap[b]? = some (.cells #[.bool true, i64 room, .slice A n c, i64 bad] 290)) : Calls Tryz.prog 241 #[ptr b] w0 fun e w' => e = .returned (.bool false) ∧ Chg N0 w0 w' := by
  have hp := Hp.start (S := N0) w0
  have c0 : w0.cell? ⟨b, 0, none⟩ = some (.bool true) := cell_of_heap h rfl
  refine calls_x (args := [_]) tabOk Tryz.func241 Tryz.ntmps241 Tryz.results241 rfl (Nat.le_of_ble_eq_true rfl) ?_
  ((conv => whnf); repeat' ((first | ((with_reducible refine br_id ?_); (with_reducible refine br_f ?_)) | ((with_reducible refine ld_id ?_); (refine ld_of (by assumption) ?_))) <;> (conv => whnf)))
  exact ps_val (v' := .bool false) rfl ⟨rfl, hp.chg⟩
theorem wfail_any {w0 : World} {b room : Nat} {A : Option Addr} {n c : Nat} (e : Int) (h : (cel b 290 #[.bool true, i64 room, .slice A n c, i64 0]).ok w0) : Calls Tryz.prog 214 #[ptr b, i64 e] w0 fun r w' => r = .returned (.tuple #[]) ∧ Mut (cel b 290 #[.bool true, i64 room, .slice A n c, i64 0]) (cel b 290 #[.bool true, i64 room, .slice A n c, i64 e]) w0 w' := by
  have hp := Hp.start1 h
  refine calls_x (args := [_, _]) tabOk Tryz.func214 Tryz.ntmps214 Tryz.results214 rfl (Nat.le_of_ble_eq_true rfl) ?_
  ((conv => whnf); repeat' ((first | ((with_reducible refine br_id ?_); first | (with_reducible refine br_t ?_) | (with_reducible refine br_f ?_) | (with_reducible refine br_not ?_) | ((with_reducible refine br_eq (fun hx => ?_) (fun hx => ?_)) <;> (try (exfalso; first | omega | exact absurd hx (by assumption) | exact absurd (by assumption) hx)))) | ((with_reducible refine cn_id ?_); (refine cn rfl ?_)) | ((with_reducible refine ld_id ?_); (apply ld_hs hp; (focus ((repeat (first | exact Has.here | apply Has.there)); done)); exact rfl)) | ((with_reducible refine st_id ?_); (apply st_hs hp; (focus ((repeat (first | exact Has.here | apply Has.there)); done)); exact rfl; exact rfl; clear hp; intro w hp; (try dsimp only [List.set] at hp))) | ((with_reducible refine cl_id ?_); ((refine cl_eq (wnone_any (cel_ok.1 (hp.get (j := 0) rfl))) rfl rfl ?_; rintro e w ⟨rfl, hcc⟩; replace hp := hp.call0 hcc; refine ⟨_, rfl, ?_⟩)))) <;> (conv => whnf)))
  exact ps_val (v' := .tuple #[]) rfl ⟨rfl, hp.shut1 (j := 0) rfl⟩
def putW (room : Nat) (l : List UInt8) (bad : Int) (fits : Bool) (ps : List UInt8) : List UInt8 × Int :=
  if bad ≠ 0 then (l, bad) else if fits = false then (l, 1) else if room < l.length + ps.length then (l, 3) else (l ++ ps, 0)
theorem wput_any {B : Nat} {w0 : World} {b room : Nat} {s : Sl UInt8} {bad : Int} {ps : Sl (Sl UInt8)} (fits : Bool) (h : (star (wrRs b room s bad)).ok w0) (hps : SlOut (star (wrRs b room s bad)).dom B w0 prtL 1 ps) (hpx : ∀ x ∈ ps.l, SlOut (star (wrRs b room s bad)).dom B w0 u8L 1 x)
    (hn : (ps.l.flatMap (·.l)).length ≤ 1000000) (hs : s.l.length ≤ 1000000) (hr : room ≤ 2000000000) : Calls Tryz.prog 212 #[ptr b, .bool fits, ps.v] w0 fun e w' =>
    ∃ s' : Sl UInt8, s'.l = (putW room s.l bad fits (ps.l.flatMap (·.l))).1 ∧ e = .returned (.tuple #[]) ∧ Mut (star (wrRs b room s bad)) (star (wrRs b room s' (putW room s.l bad fits (ps.l.flatMap (·.l))).2)) w0 w' := by
  have hp := Hp.open h
  have u1 := Tryz.underlying319
  have u2 := Tryz.underlying38
  have hmax : ps.l.length ≤ 9223372036854775807 := by have := hps.at_.le; have := hps.at_.max; simp only [maxLen] at this; omega
  refine calls_x (args := [_, _, _]) tabOk Tryz.func212 Tryz.ntmps212 Tryz.results212 rfl (Nat.le_of_ble_eq_true rfl) ?_
  ((conv => whnf); repeat' ((first | ((with_reducible refine br_id ?_); first | (with_reducible refine br_f ?_) | ((with_reducible refine br_ne (fun hx => ?_) (fun hx => ?_)) <;> (try (exfalso; first | omega | exact absurd hx (by assumption) | exact absurd (by assumption) hx)))) | ((with_reducible refine ld_id ?_); (apply ld_hs hp; (focus ((repeat (first | exact Has.here | apply Has.there)); done)); exact rfl)) | ((with_reducible refine gen_id ?_); (apply gen_len; exact rfl; exact rfl; assumption)) | ((with_reducible refine cl_id ?_); ((refine cl_eq (wnone_any (cel_ok.1 (hp.get (j := 0) rfl))) rfl rfl ?_; rintro e w ⟨rfl, hcc⟩; replace hp := hp.call0 hcc; refine ⟨_, rfl, ?_⟩)))) <;> (conv => whnf)))
  · have hb : bad ≠ 0 := by simpa using hx
    refine ps_val (v' := .tuple #[]) rfl ⟨s, ?_, rfl, ?_⟩
    · rw [putW, if_pos hb]
    · rw [putW, if_pos hb]
      exact hp.shut (.refl _)
  · have hb : bad = 0 := by simpa using hx
    subst hb
    refine lp_inv (α := Nat × Nat) (fun a => [(0, ptr b), (1, .bool fits), (2, ps.v), (6, i64 a.2), (21, ps.v), (22, i64 ps.l.length), (23, i64 a.1)]) (fun a w => a.1 ≤ ps.l.length ∧ a.2 = ((ps.l.take a.1).flatMap (·.l)).length ∧ Hp (star (wrRs b room s 0)).dom w0 w (wrRs b room s 0)) (fun a => ps.l.length - a.1) (0, 0) (by (repeat' (first | exact trivial | (refine ⟨rfl, ?_⟩)))) ⟨by omega, by simp, hp⟩ ?_
    clear hp
    rintro ⟨i, n⟩ e0 w ⟨hi, hnn, hp⟩
    dsimp only at hi hnn hp ⊢
    have hpart : ∀ i, ((ps.l.take i).flatMap (·.l)).length ≤ 1000000 := fun i => by
      have h1 : ((ps.l.take i).flatMap (·.l)) ++ ((ps.l.drop i).flatMap (·.l)) = ps.l.flatMap (·.l) := by rw [← List.flatMap_append, List.take_append_drop]
      have h2 := congrArg List.length h1
      rw [List.length_append] at h2
      omega
    rcases Nat.lt_or_ge i ps.l.length with hlt | hge
    · obtain ⟨bb, o, x, hA, hbb, hrow, hxx⟩ := hps.at_.has hlt
      have hne : ps.l ≠ [] := fun e => by rw [e] at hlt; simp at hlt
      have hrow' := hrow.keep hp.chg (hps.out hne bb o hA)
      have htk : ((ps.l.take (i + 1)).flatMap (·.l)).length = n + x.l.length := by
        rw [hnn, List.take_add_one, hxx, List.flatMap_append, List.length_append]
        simp
      have hb1 := hpart (i + 1)
      ((conv => whnf); repeat' ((first | ((with_reducible refine br_id ?_); ((with_reducible refine br_dec (fun hx => ?_) (fun hx => ?_)) <;> (try (exfalso; first | omega | exact absurd hx (by assumption) | exact absurd (by assumption) hx)))) | ((with_reducible refine ar_id ?_); (refine ar_i64 (by omega) ?_)) | ((with_reducible refine ld_id ?_); ((refine ld_rowat0 hrow' i rfl hxx rfl ?_))) | ((with_reducible refine gen_id ?_); first | ((refine gen_ixs rfl rfl hA rfl rfl (by omega) ?_)) | (apply gen_len; exact rfl; exact rfl; assumption))) <;> (conv => whnf)))
      exact lp_next (i + 1, n + x.l.length) (by show ps.l.length - (i + 1) < ps.l.length - i; omega) (by (repeat' (first | exact trivial | (refine ⟨rfl, ?_⟩)))) ⟨by show i + 1 ≤ _; omega, htk.symm, hp⟩
    · rw [List.take_of_length_le hge] at hnn
      cases fits with
      | false =>
        ((conv => whnf); repeat' (((with_reducible refine br_id ?_); first | (with_reducible refine br_f ?_) | (with_reducible refine br_not ?_) | ((with_reducible refine br_dec (fun hx => ?_) (fun hx => ?_)) <;> (try (exfalso; first | omega | exact absurd hx (by assumption) | exact absurd (by assumption) hx)))) <;> (conv => whnf)))
        refine cl_of (wfail_any 1 (hp.get (j := 0) rfl)) ?_
        rintro e w ⟨rfl, hm⟩
        replace hp := hp.via (j := 0) rfl hm
        dsimp only [List.set] at hp
        refine ⟨_, rfl, ?_⟩
        ((conv => whnf); repeat' ((first | ((with_reducible refine br_id ?_); first | (with_reducible refine br_t ?_) | (with_reducible refine br_f ?_) | (with_reducible refine br_not ?_) | ((with_reducible refine br_dec (fun hx => ?_) (fun hx => ?_)) <;> (try (exfalso; first | omega | exact absurd hx (by assumption) | exact absurd (by assumption) hx))) | ((with_reducible refine br_eq (fun hx => ?_) (fun hx => ?_)) <;> (try (exfalso; first | omega | exact absurd hx (by assumption) | exact absurd (by assumption) hx))) | ((with_reducible refine br_ne (fun hx => ?_) (fun hx => ?_)) <;> (try (exfalso; first | omega | exact absurd hx (by assumption) | exact absurd (by assumption) hx))) | ((with_reducible refine br_s (fun hx => ?_) (fun hx => ?_)) <;> (try (exfalso; first | omega | exact absurd hx (by assumption) | exact absurd (by assumption) hx)))) | ((with_reducible refine ar_id ?_); first | (refine ar_i64 (by omega) ?_) | (refine ar_u32 (by omega) ?_) | (refine ar_u64 (by omega) ?_) | (refine ar_u8 (by omega) ?_)) | ((with_reducible refine cn_id ?_); first | (refine cn rfl ?_) | (refine cn (by assumption) ?_) | (refine cn (by omega) ?_) | (refine cn (Chg.refl _ _) ?_)) | ((with_reducible refine ld_id ?_); first | (apply ld_hs hp; (focus ((repeat (first | exact Has.here | apply Has.there)); done)); exact rfl) | (refine ld_of (by assumption) ?_)) | ((with_reducible refine ldn_id ?_); first | (apply lda_hs hp; (focus ((repeat (first | exact Has.here | apply Has.there)); done)); exact rfl) | (apply ldn_hs hp; (focus ((repeat (first | exact Has.here | apply Has.there)); done)); exact rfl; exact rfl)) | ((with_reducible refine al_id ?_); (refine al_cel hp ?_; clear hp; intro bb w hp)) | ((with_reducible refine st_id ?_); first | (apply sta_hs hp; (focus ((repeat (first | exact Has.here | apply Has.there)); done)); exact rfl; exact rfl; clear hp; intro w hp; (try dsimp only [List.set] at hp)) | (apply st_hs hp; (focus ((repeat (first | exact Has.here | apply Has.there)); done)); exact rfl; exact rfl; clear hp; intro w hp; (try dsimp only [List.set] at hp))) | ((with_reducible refine gen_id ?_); first | (apply gen_build; exact rfl; exact rfl) | (apply gen_len; exact rfl; exact rfl; assumption) | (apply gen_min; exact rfl; exact rfl; exact rfl) | (apply gen_max; exact rfl; exact rfl; exact rfl) | (apply gen_ix; exact rfl; exact rfl; exact rfl; exact rfl; omega) | (apply gen_ixa; exact rfl; exact rfl; exact rfl; exact rfl; omega)) | ((with_reducible refine dr_id ?_); first | (refine dr_auto tabOk (by kernel_rfl) (by decide +kernel) ?_; (try replace hp := hp.drew)) | (refine dr_autog tabOk (by kernel_rfl) (by decide +kernel) ?_; (try replace hp := hp.drew)) | (refine dr_autot tabOk (by kernel_rfl) (by decide +kernel) ?_; (try replace hp := hp.drew))) | ((with_reducible refine fk_id ?_); (refine fk_mk ?_ ?_)) | ((with_reducible refine rd_id ?_); first | (apply rd_len; exact rfl; exact rfl; assumption) | (apply rd_ix; exact rfl; exact rfl; exact rfl; exact rfl; omega))) <;> (conv => whnf)))
        refine ps_val (v' := .tuple #[]) rfl ⟨s, ?_, rfl, ?_⟩
        · rw [putW, if_neg (by simp), if_pos rfl]
        · rw [putW, if_neg (by simp), if_pos rfl]
          exact hp.shut (.refl _)
      | true =>
        ((conv => whnf); repeat' ((first | ((with_reducible refine br_id ?_); first | (with_reducible refine br_t ?_) | (with_reducible refine br_not ?_) | ((with_reducible refine br_dec (fun hx => ?_) (fun hx => ?_)) <;> (try (exfalso; first | omega | exact absurd hx (by assumption) | exact absurd (by assumption) hx)))) | ((with_reducible refine ar_id ?_); (refine ar_i64 (by omega) ?_)) | ((with_reducible refine ld_id ?_); (apply ld_hs hp; (focus ((repeat (first | exact Has.here | apply Has.there)); done)); exact rfl)) | ((with_reducible refine gen_id ?_); (apply gen_len; exact rfl; exact rfl; assumption)) | ((with_reducible refine dr_id ?_); (refine dr_auto tabOk (by kernel_rfl) (by decide +kernel) ?_; (try replace hp := hp.drew))) | ((with_reducible refine rd_id ?_); (apply rd_len; exact rfl; exact rfl; assumption))) <;> (conv => whnf)))
        · refine cl_of (wfail_any 3 (hp.get (j := 0) rfl)) ?_
          rintro e w ⟨rfl, hm⟩
          replace hp := hp.via (j := 0) rfl hm
          dsimp only [List.set] at hp
          refine ⟨_, rfl, ?_⟩
          ((conv => whnf); repeat' ((first | ((with_reducible refine br_id ?_); first | (with_reducible refine br_t ?_) | (with_reducible refine br_f ?_) | (with_reducible refine br_not ?_) | ((with_reducible refine br_dec (fun hx => ?_) (fun hx => ?_)) <;> (try (exfalso; first | omega | exact absurd hx (by assumption) | exact absurd (by assumption) hx))) | ((with_reducible refine br_eq (fun hx => ?_) (fun hx => ?_)) <;> (try (exfalso; first | omega | exact absurd hx (by assumption) | exact absurd (by assumption) hx))) | ((with_reducible refine br_ne (fun hx => ?_) (fun hx => ?_)) <;> (try (exfalso; first | omega | exact absurd hx (by assumption) | exact absurd (by assumption) hx))) | ((with_reducible refine br_s (fun hx => ?_) (fun hx => ?_)) <;> (try (exfalso; first | omega | exact absurd hx (by assumption) | exact absurd (by assumption) hx)))) | ((with_reducible refine ar_id ?_); first | (refine ar_i64 (by omega) ?_) | (refine ar_u32 (by omega) ?_) | (refine ar_u64 (by omega) ?_) | (refine ar_u8 (by omega) ?_)) | ((with_reducible refine cn_id ?_); first | (refine cn rfl ?_) | (refine cn (by assumption) ?_) | (refine cn (by omega) ?_) | (refine cn (Chg.refl _ _) ?_)) | ((with_reducible refine ld_id ?_); first | (apply ld_hs hp; (focus ((repeat (first | exact Has.here | apply Has.there)); done)); exact rfl) | (refine ld_of (by assumption) ?_)) | ((with_reducible refine ldn_id ?_); first | (apply lda_hs hp; (focus ((repeat (first | exact Has.here | apply Has.there)); done)); exact rfl) | (apply ldn_hs hp; (focus ((repeat (first | exact Has.here | apply Has.there)); done)); exact rfl; exact rfl)) | ((with_reducible refine al_id ?_); (refine al_cel hp ?_; clear hp; intro bb w hp)) | ((with_reducible refine st_id ?_); first | (apply sta_hs hp; (focus ((repeat (first | exact Has.here | apply Has.there)); done)); exact rfl; exact rfl; clear hp; intro w hp; (try dsimp only [List.set] at hp)) | (apply st_hs hp; (focus ((repeat (first | exact Has.here | apply Has.there)); done)); exact rfl; exact rfl; clear hp; intro w hp; (try dsimp only [List.set] at hp))) | ((with_reducible refine gen_id ?_); first | (apply gen_build; exact rfl; exact rfl) | (apply gen_len; exact rfl; exact rfl; assumption) | (apply gen_min; exact rfl; exact rfl; exact rfl) | (apply gen_max; exact rfl; exact rfl; exact rfl) | (apply gen_ix; exact rfl; exact rfl; exact rfl; exact rfl; omega) | (apply gen_ixa; exact rfl; exact rfl; exact rfl; exact rfl; omega)) | ((with_reducible refine dr_id ?_); first | (refine dr_auto tabOk (by kernel_rfl) (by decide +kernel) ?_; (try replace hp := hp.drew)) | (refine dr_autog tabOk (by kernel_rfl) (by decide +kernel) ?_; (try replace hp := hp.drew)) | (refine dr_autot tabOk (by kernel_rfl) (by decide +kernel) ?_; (try replace hp := hp.drew))) | ((with_reducible refine fk_id ?_); (refine fk_mk ?_ ?_)) | ((with_reducible refine rd_id ?_); first | (apply rd_len; exact rfl; exact rfl; assumption) | (apply rd_ix; exact rfl; exact rfl; exact rfl; exact rfl; omega))) <;> (conv => whnf)))
          refine ps_val (v' := .tuple #[]) rfl ⟨s, ?_, rfl, ?_⟩
          · rw [putW, if_neg (by simp), if_neg (by simp), if_pos (by omega)]
          · rw [putW, if_neg (by simp), if_neg (by simp), if_pos (by omega)]
            exact hp.shut (.refl _)
        · have hroom : s.l.length + (ps.l.flatMap (·.l)).length ≤ room := by omega
          refine lp_inv (α := Nat × Sl UInt8) (fun a => [(0, ptr b), (51, ps.v), (52, i64 ps.l.length), (53, i64 a.1)]) (fun a w => a.1 ≤ ps.l.length ∧ a.2.l = s.l ++ (ps.l.take a.1).flatMap (·.l) ∧ Hp (star (wrRs b room s 0)).dom w0 w (wrRs b room a.2 0)) (fun a => ps.l.length - a.1) (0, s) (by (repeat' (first | exact trivial | (refine ⟨rfl, ?_⟩)))) ⟨by omega, by simp, hp⟩ ?_
          clear hp
          rintro ⟨i, q⟩ e0 w ⟨hi, hq, hp⟩
          dsimp only at hi hq hp ⊢
          rcases Nat.lt_or_ge i ps.l.length with hlt | hge
          · obtain ⟨bb, o, x, hA, hbb, hrow, hxx⟩ := hps.at_.has hlt
            have hmem := List.mem_of_getElem? hxx
            have hne : ps.l ≠ [] := fun e => by rw [e] at hlt; simp at hlt
            have hrow' := hrow.keep hp.chg (hps.out hne bb o hA)
            have htk : (ps.l.take (i + 1)).flatMap (·.l) = (ps.l.take i).flatMap (·.l) ++ x.l := by
              rw [List.take_add_one, hxx, List.flatMap_append]
              simp
            have hb1 := hpart (i + 1)
            have hb2 : q.l.length + x.l.length ≤ 2000000 := by
              rw [hq, List.length_append]
              rw [htk, List.length_append] at hb1
              omega
            ((conv => whnf); repeat' ((first | ((with_reducible refine br_id ?_); ((with_reducible refine br_dec (fun hx => ?_) (fun hx => ?_)) <;> (try (exfalso; first | omega | exact absurd hx (by assumption) | exact absurd (by assumption) hx)))) | ((with_reducible refine ar_id ?_); (refine ar_i64 (by omega) ?_)) | ((with_reducible refine cn_id ?_); (refine cn rfl ?_)) | ((with_reducible refine ld_id ?_); first | ((refine ld_rowat0 hrow' i rfl hxx rfl ?_)) | (apply ld_hs hp; (focus ((repeat (first | exact Has.here | apply Has.there)); done)); exact rfl)) | ((with_reducible refine st_id ?_); (apply st_hs hp; (focus ((repeat (first | exact Has.here | apply Has.there)); done)); exact rfl; exact rfl; clear hp; intro w hp; (try dsimp only [List.set] at hp))) | ((with_reducible refine gen_id ?_); first | ((refine gen_ixs rfl rfl hA rfl rfl (by omega) ?_)) | ((refine gen_app (s := q) rfl hp 1 rfl el_u8 rfl (x) rfl (((hpx x hmem).keep hp.chg)) (fun _ _ => rfl) u8_one (by (try simp only [List.length_append, List.length_cons, List.length_nil, List.length_map, List.length_replicate, maxLen]); omega) (by (try simp only [List.length_append, List.length_cons, List.length_nil, List.length_map, List.length_replicate, maxLen]); omega) ?_); clear hp; intro A2 c2 w hp; dsimp only [List.set] at hp))) <;> (conv => whnf)))
            refine lp_next (i + 1, ⟨A2, c2, q.l ++ x.l⟩) (by show ps.l.length - (i + 1) < ps.l.length - i; omega) (by (repeat' (first | exact trivial | (refine ⟨rfl, ?_⟩)))) ⟨by show i + 1 ≤ _; omega, ?_, hp⟩
            show q.l ++ x.l = s.l ++ (ps.l.take (i + 1)).flatMap (·.l)
            rw [htk, hq, List.append_assoc]
          · rw [List.take_of_length_le hge] at hq
            ((conv => whnf); repeat' (((with_reducible refine br_id ?_); ((with_reducible refine br_dec (fun hx => ?_) (fun hx => ?_)) <;> (try (exfalso; first | omega | exact absurd hx (by assumption) | exact absurd (by assumption) hx)))) <;> (conv => whnf)))
            refine ps_val (v' := .tuple #[]) rfl ⟨q, ?_, rfl, ?_⟩
            · rw [putW, if_neg (by simp), if_neg (by simp), if_neg (by omega), hq]
            · rw [putW, if_neg (by simp), if_neg (by simp), if_neg (by omega)]
              exact hp.shut (.refl _)
theorem wbytes_any {B : Nat} {w0 : World} {b room : Nat} {s x : Sl UInt8} {bad : Int} (h : (star (wrRs b room s bad)).ok w0) (hx : SlOut (star (wrRs b room s bad)).dom B w0 u8L 1 x) (hBw : B ≤ w0.heap.size) (hn : x.l.length ≤ 1000000) (hs : s.l.length ≤ 1000000) (hr : room ≤ 2000000000) :
    Calls Tryz.prog 215 #[ptr b, x.v] w0 fun e w' => ∃ s' : Sl UInt8, s'.l = (putW room s.l bad true x.l).1 ∧ e = .returned (.tuple #[]) ∧ Mut (star (wrRs b room s bad)) (star (wrRs b room s' (putW room s.l bad true x.l).2)) w0 w' := by
  have hp := Hp.start1 h
  refine calls_x (args := [_, _]) tabOk Tryz.func215 Tryz.ntmps215 Tryz.results215 rfl (Nat.le_of_ble_eq_true rfl) ?_
  ((conv => whnf); repeat' (((with_reducible refine gen_id ?_); ((refine gen_bs rfl hp el_prt prtL [x] [x.v] rfl rfl rfl (fun _ hh => by simp at hh; subst hh; rfl) (by omega) ?_); clear hp; intro br w hp)) <;> (conv => whnf)))
  have hl : (Sl.mk (some ⟨br, 0, none⟩) 1 [x]).l.flatMap (fun x => x.l) = x.l := List.append_nil _
  refine cl_of (wput_any (B := w.heap.size) (ps := ⟨some ⟨br, 0, none⟩, 1, [x]⟩) true (hp.get (j := 1) rfl) (out_row hp (by simp)) (fun y hy => ?_) (by rw [hl]; exact hn) hs hr) ?_
  · simp at hy
    subst hy
    exact ⟨(hx.keep hp.chg).more (Nat.le_trans hBw hp.chg.size), hx.out⟩
  rw [hl]
  rintro e w ⟨s', hs', rfl, hm⟩
  replace hp := hp.via (j := 1) rfl hm
  dsimp only [List.set] at hp
  refine ⟨_, rfl, ?_⟩
  ((conv => whnf); repeat' ((first | ((with_reducible refine br_id ?_); first | (with_reducible refine br_t ?_) | (with_reducible refine br_f ?_) | (with_reducible refine br_not ?_) | ((with_reducible refine br_dec (fun hx => ?_) (fun hx => ?_)) <;> (try (exfalso; first | omega | exact absurd hx (by assumption) | exact absurd (by assumption) hx))) | ((with_reducible refine br_eq (fun hx => ?_) (fun hx => ?_)) <;> (try (exfalso; first | omega | exact absurd hx (by assumption) | exact absurd (by assumption) hx))) | ((with_reducible refine br_ne (fun hx => ?_) (fun hx => ?_)) <;> (try (exfalso; first | omega | exact absurd hx (by assumption) | exact absurd (by assumption) hx))) | ((with_reducible refine br_s (fun hx => ?_) (fun hx => ?_)) <;> (try (exfalso; first | omega | exact absurd hx (by assumption) | exact absurd (by assumption) hx)))) | ((with_reducible refine ar_id ?_); first | (refine ar_i64 (by omega) ?_) | (refine ar_u32 (by omega) ?_) | (refine ar_u64 (by omega) ?_) | (refine ar_u8 (by omega) ?_)) | ((with_reducible refine cn_id ?_); first | (refine cn rfl ?_) | (refine cn (by assumption) ?_) | (refine cn (by omega) ?_) | (refine cn (Chg.refl _ _) ?_)) | ((with_reducible refine ld_id ?_); first | (apply ld_hs hp; (focus ((repeat (first | exact Has.here | apply Has.there)); done)); exact rfl) | (refine ld_of (by assumption) ?_)) | ((with_reducible refine ldn_id ?_); first | (apply lda_hs hp; (focus ((repeat (first | exact Has.here | apply Has.there)); done)); exact rfl) | (apply ldn_hs hp; (focus ((repeat (first | exact Has.here | apply Has.there)); done)); exact rfl; exact rfl)) | ((with_reducible refine al_id ?_); (refine al_cel hp ?_; clear hp; intro bb w hp)) | ((with_reducible refine st_id ?_); first | (apply sta_hs hp; (focus ((repeat (first | exact Has.here | apply Has.there)); done)); exact rfl; exact rfl; clear hp; intro w hp; (try dsimp only [List.set] at hp)) | (apply st_hs hp; (focus ((repeat (first | exact Has.here | apply Has.there)); done)); exact rfl; exact rfl; clear hp; intro w hp; (try dsimp only [List.set] at hp))) | ((with_reducible refine gen_id ?_); first | (apply gen_build; exact rfl; exact rfl) | (apply gen_len; exact rfl; exact rfl; assumption) | (apply gen_min; exact rfl; exact rfl; exact rfl) | (apply gen_max; exact rfl; exact rfl; exact rfl) | (apply gen_ix; exact rfl; exact rfl; exact rfl; exact rfl; omega) | (apply gen_ixa; exact rfl; exact rfl; exact rfl; exact rfl; omega)) | ((with_reducible refine dr_id ?_); first | (refine dr_auto tabOk (by kernel_rfl) (by decide +kernel) ?_; (try replace hp := hp.drew)) | (refine dr_autog tabOk (by kernel_rfl) (by decide +kernel) ?_; (try replace hp := hp.drew)) | (refine dr_autot tabOk (by kernel_rfl) (by decide +kernel) ?_; (try replace hp := hp.drew))) | ((with_reducible refine fk_id ?_); (refine fk_mk ?_ ?_)) | ((with_reducible refine rd_id ?_); first | (apply rd_len; exact rfl; exact rfl; assumption) | (apply rd_ix; exact rfl; exact rfl; exact rfl; exact rfl; omega))) <;> (conv => whnf)))
  exact ps_val (v' := .tuple #[]) rfl ⟨s', hs', rfl, hp.shut1 (j := 1) rfl⟩
theorem werr_any {w0 : World} {b room : Nat} {A : Option Addr} {n c : Nat} {bad : Int} (h : w0.heap[b]? = some (.cells #[.bool true, i64 room, .slice A n c, i64 bad] 290)) : Calls Tryz.prog 217 #[ptr b] w0 fun e w' => e = .returned (i64 bad) ∧ Chg N0 w0 w' := by
  have hp := Hp.start (S := N0) w0
  have c3 : w0.cell? ⟨b, 3, none⟩ = some (i64 bad) := cell_of_heap h rfl
  refine calls_x (args := [_]) tabOk Tryz.func217 Tryz.ntmps217 Tryz.results217 rfl (Nat.le_of_ble_eq_true rfl) ?_
  ((conv => whnf); repeat' ((first | ((with_reducible refine br_id ?_); (with_reducible refine br_f ?_)) | ((with_reducible refine ld_id ?_); ((refine ld_of (hp.chg.cell0 c3) ?_))) | ((with_reducible refine cl_id ?_); ((refine cl_eq (wnone_any (hp.chg.heap0 h)) rfl rfl ?_; rintro e w ⟨rfl, hcc⟩; replace hp := hp.call0 hcc; refine ⟨_, rfl, ?_⟩)))) <;> (conv => whnf)))
  exact ps_val (v' := i64 bad) rfl ⟨rfl, hp.chg⟩
theorem wdone_any {w0 : World} {b room : Nat} {s : Sl UInt8} {bad : Int} (h : (star (wrRs b room s bad)).ok w0) (hs : s.l.length ≤ 1000000) : Calls Tryz.prog 178 #[ptr b] w0 fun e w' => ∃ r : Sl UInt8, r.l = (if bad = 0 then s.l else []) ∧ e = .returned (.tuple #[r.v, i64 bad]) ∧ Made (rowR 5 1 u8L r) w0 w' := by
  have hp := Hp.start (S := N0) w0
  have hb := cel_ok.1 (((star_ok (rs := wrRs b room s bad)).1 h).1 (cel b 290 (wrC room s bad)) (by simp [wrRs]))
  have hrow := rowR_at (((star_ok (rs := wrRs b room s bad)).1 h).1 (rowR 5 1 u8L s) (by simp [wrRs]))
  have c2 : w0.cell? ⟨b, 2, none⟩ = some s.v := cell_of_heap hb rfl
  refine calls_x (args := [_]) tabOk Tryz.func178 Tryz.ntmps178 Tryz.results178 rfl (Nat.le_of_ble_eq_true rfl) ?_
  ((conv => whnf); repeat' ((first | ((with_reducible refine br_id ?_); ((with_reducible refine br_ne (fun hx => ?_) (fun hx => ?_)) <;> (try (exfalso; first | omega | exact absurd hx (by assumption) | exact absurd (by assumption) hx)))) | ((with_reducible refine ld_id ?_); ((refine ld_of (hp.chg.cell0 c2) ?_))) | ((with_reducible refine gen_id ?_); ((refine gen_app0 rfl hp el_u8 rfl (s) rfl ((hrow.keep hp.chg fun _ hh => hh.elim)) (fun _ _ => rfl) u8_one (by (try simp only [List.length_append, List.length_cons, List.length_nil, List.length_map, List.length_replicate, maxLen]); omega) (by (try simp only [List.length_append, List.length_cons, List.length_nil, List.length_map, List.length_replicate, maxLen]); omega) ?_); clear hp; intro A2 c2 w hcc hp)) | ((with_reducible refine cl_id ?_); ((refine cl_eq (werr_any (hp.chg.heap0 hb)) rfl rfl ?_; rintro e w ⟨rfl, hcc⟩; replace hp := hp.call0 hcc; refine ⟨_, rfl, ?_⟩)))) <;> (conv => whnf)))
  · have hb0 : ¬ bad = 0 := by simpa using hx
    have hp0 : Hp N0 w0 w [rowR 5 1 u8L Sl.nil] := hp.new (Chg.refl _ _) (rowR_ok.2 ⟨World.ownsRow_nil w 0 _ _, by simp [Sl.nil]⟩) fun b hb => by have h1 := rowR_dom.1 hb; cases h1
    exact ps_val (v' := .tuple #[(Sl.nil (α := UInt8)).v, i64 bad]) rfl ⟨Sl.nil, by rw [if_neg hb0]; rfl, rfl, hp0.made1 (j := 0) rfl⟩
  · have hb0 : bad = 0 := by simpa using hx
    subst hb0
    exact ps_val (v' := .tuple #[(Sl.mk A2 c2 s.l).v, i64 0]) rfl ⟨⟨A2, c2, s.l⟩, by rw [if_pos rfl], rfl, hp.made1 (j := 0) rfl⟩
end Go.Proofs.YteabebmlclgakaaGreat
