/- MImprintRests17: Chain, ShaP. -/
import Derived.Test.YteabebmlclgakaaGreatMImprintRests9
import Derived.Test.YteabebmlclgakaaGreatMImprintRests10
import Derived.Test.YteabebmlclgakaaGreatMImprintRests16
/- Chain: package chain: what a chain tells. Of chains whose window is no longer than their height. -/
namespace Go.Proofs.YteabebmlclgakaaGreat
set_option linter.unusedSimpArgs false
set_option linter.unusedVariables false
open Go.RowKit
set_option maxRecDepth 100000
set_option maxHeartbeats 2000000
structure Chn where
  depth : Int
  ht : UInt32
  win : Sl Blk
abbrev Chn.c (C : Chn) : List Value := [i64 C.depth, u32 C.ht, C.win.v]
/-- the height of the oldest block -/
def Chn.low (C : Chn) : Nat := C.ht.toNat + 1 - C.win.l.length
structure ChAt (w : World) (b : Nat) (C : Chn) : Prop where
  cel : w.heap[b]? = some (.cells C.c.toArray 159)
  win : RAt w.heap.size w C.win
  dep : 1 ≤ C.depth ∧ C.depth ≤ 16
  len : (C.win.l.length : Int) ≤ C.depth + 1
  le : C.win.l.length ≤ C.ht.toNat
  nd : ∀ c ∈ C.win.l, c.tx.l.Nodup ∧ c.tx.l.length ≤ 32
section
variable {w0 : World} {b : Nat} {C : Chn}
theorem ChAt.keep0 {w : World} (h : ChAt w0 b C) (hc : Chg N0 w0 w) : ChAt w b C :=
  ⟨hc.heap h.cel fun hh => hh, ⟨(h.win.row.keep hc fun _ hh => hh.elim).more hc.size, fun c hm => ((h.win.tx c hm).keep hc fun _ hh => hh.elim).more hc.size⟩, h.dep, h.len, h.le, h.nd⟩
theorem ChAt.cell (h : ChAt w0 b C) {i : Nat} {v : Value} (hi : C.c[i]? = some v) : w0.cell? ⟨b, i, none⟩ = some v := cell_of_heap h.cel (by simpa using hi)
theorem cnone_any (h : ChAt w0 b C) : Calls Tryz.prog 115 #[ptr b] w0 fun e w' => e = .returned (.bool false) ∧ Chg N0 w0 w' := by
  have hp := Hp.start (S := N0) w0
  have hd := h.dep
  refine calls_x (args := [_]) tabOk Tryz.func115 Tryz.ntmps115 Tryz.results115 rfl (Nat.le_of_ble_eq_true rfl) ?_
  have hd2 : (C.depth == 0) = false := by simp; omega
  ((conv => whnf); repeat' ((first | ((with_reducible refine br_id ?_); (with_reducible refine br_f ?_)) | ((with_reducible refine ld_id ?_); ((refine ld_of ((h.keep0 hp.chg).cell rfl) ?_)))) <;> (conv => whnf)))
  all_goals exact ps_val (v' := .bool (C.depth == 0)) rfl ⟨by rw [hd2], hp.chg⟩
theorem cheight_any (h : ChAt w0 b C) : Calls Tryz.prog 133 #[ptr b] w0 fun e w' => e = .returned (u32 C.ht) ∧ Chg N0 w0 w' := by
  have hp := Hp.start (S := N0) w0
  refine calls_x (args := [_]) tabOk Tryz.func133 Tryz.ntmps133 Tryz.results133 rfl (Nat.le_of_ble_eq_true rfl) ?_
  ((conv => whnf); repeat' ((first | ((with_reducible refine br_id ?_); (with_reducible refine br_f ?_)) | ((with_reducible refine ld_id ?_); ((refine ld_of ((h.keep0 hp.chg).cell rfl) ?_))) | ((with_reducible refine cl_id ?_); ((refine cl_eq ((cnone_any (h.keep0 hp.chg))) rfl rfl ?_; rintro e w ⟨rfl, hcc⟩; replace hp := hp.call0 hcc; refine ⟨_, rfl, ?_⟩)))) <;> (conv => whnf)))
  exact ps_val (v' := u32 C.ht) rfl ⟨rfl, hp.chg⟩
theorem cat_any (h : ChAt w0 b C) {i : Nat} (hi : i < C.win.l.length) : Calls Tryz.prog 116 #[ptr b, i64 i] w0 fun e w' => e = .returned (u32 (UInt32.ofNat (C.low + i))) ∧ Chg N0 w0 w' := by
  have hp := Hp.start (S := N0) w0
  have us := Tryz.underlying26
  have hle := h.le
  have hlt := C.ht.toNat_lt
  have hd := h.dep
  have hln := h.len
  obtain ⟨k, hk⟩ : ∃ k, k = C.low + i := ⟨_, rfl⟩
  have hk2 : (C.ht.toNat : Int) - ((C.win.l.length : Int) - 1 - i) = k := by
    rw [hk]; unfold Chn.low; omega
  have hk3 : (UInt32.ofNat k).toNat = k := UInt32.toNat_ofNat_of_lt' (by show _ < 4294967296; omega)
  rw [← hk]
  refine calls_x (args := [_, _]) tabOk Tryz.func116 Tryz.ntmps116 Tryz.results116 rfl (Nat.le_of_ble_eq_true rfl) ?_
  ((conv => whnf); repeat' ((first | ((with_reducible refine br_id ?_); first | (with_reducible refine br_t ?_) | (with_reducible refine br_f ?_) | (with_reducible refine br_not ?_) | ((with_reducible refine br_dec (fun hx => ?_) (fun hx => ?_)) <;> (try (exfalso; first | omega | exact absurd hx (by assumption) | exact absurd (by assumption) hx))) | ((with_reducible refine br_eq (fun hx => ?_) (fun hx => ?_)) <;> (try (exfalso; first | omega | exact absurd hx (by assumption) | exact absurd (by assumption) hx))) | ((with_reducible refine br_ne (fun hx => ?_) (fun hx => ?_)) <;> (try (exfalso; first | omega | exact absurd hx (by assumption) | exact absurd (by assumption) hx))) | ((with_reducible refine br_s (fun hx => ?_) (fun hx => ?_)) <;> (try (exfalso; first | omega | exact absurd hx (by assumption) | exact absurd (by assumption) hx)))) | ((with_reducible refine ar_id ?_); first | (refine ar_i64 (by omega) ?_) | (refine ar_u32 (by omega) ?_) | (refine ar_u64 (by omega) ?_) | (refine ar_u8 (by omega) ?_)) | ((with_reducible refine cn_id ?_); first | (refine cn rfl ?_) | (refine cn (by assumption) ?_) | (refine cn (by omega) ?_) | (refine cn (Chg.refl _ _) ?_)) | ((with_reducible refine ld_id ?_); first | (apply ld_hs hp; (focus ((repeat (first | exact Has.here | apply Has.there)); done)); exact rfl) | (refine ld_of (by assumption) ?_)) | ((with_reducible refine ldn_id ?_); first | (apply lda_hs hp; (focus ((repeat (first | exact Has.here | apply Has.there)); done)); exact rfl) | (apply ldn_hs hp; (focus ((repeat (first | exact Has.here | apply Has.there)); done)); exact rfl; exact rfl)) | ((with_reducible refine al_id ?_); (refine al_cel hp ?_; clear hp; intro bb w hp)) | ((with_reducible refine st_id ?_); first | (apply sta_hs hp; (focus ((repeat (first | exact Has.here | apply Has.there)); done)); exact rfl; exact rfl; clear hp; intro w hp; (try dsimp only [List.set] at hp)) | (apply st_hs hp; (focus ((repeat (first | exact Has.here | apply Has.there)); done)); exact rfl; exact rfl; clear hp; intro w hp; (try dsimp only [List.set] at hp))) | ((with_reducible refine gen_id ?_); first | (apply gen_build; exact rfl; exact rfl) | (apply gen_len; exact rfl; exact rfl; assumption) | (apply gen_min; exact rfl; exact rfl; exact rfl) | (apply gen_max; exact rfl; exact rfl; exact rfl) | (apply gen_ix; exact rfl; exact rfl; exact rfl; exact rfl; omega) | (apply gen_ixa; exact rfl; exact rfl; exact rfl; exact rfl; omega)) | ((with_reducible refine fk_id ?_); (refine fk_mk ?_ ?_)) | ((with_reducible refine rd_id ?_); first | (apply rd_len; exact rfl; exact rfl; assumption) | (apply rd_ix; exact rfl; exact rfl; exact rfl; exact rfl; omega))) <;> (conv => whnf)))
  refine dr_autos [] 1000 tabOk (by kernel_rfl) (by decide +kernel) ?_
  replace hp := hp.drew
  ((conv => whnf); repeat' ((first | ((with_reducible refine ar_id ?_); first | (refine ar_i64 (by omega) ?_) | (refine ar_u32 (by omega) ?_)) | ((with_reducible refine ld_id ?_); ((refine ld_of ((h.keep0 hp.chg).cell rfl) ?_))) | ((with_reducible refine rd_id ?_); first | ((refine rd_conv tabOk rfl rfl rfl rfl ?_)) | (apply rd_len; exact rfl; exact rfl; assumption))) <;> (conv => whnf)))
  all_goals exact ps_val (v' := .int .u32 ((C.ht.toNat : Int) - ((C.win.l.length : Int) - 1 - i))) rfl ⟨by rw [hk2]; show _ = Ending.returned (.int .u32 ((UInt32.ofNat k).toNat : Int)); rw [hk3], hp.chg⟩
theorem clow_any (h : ChAt w0 b C) : Calls Tryz.prog 67 #[ptr b] w0 fun e w' => e = .returned (u32 (if C.win.l = [] then 0 else UInt32.ofNat C.low)) ∧ Chg N0 w0 w' := by
  have hp := Hp.start (S := N0) w0
  have us := Tryz.underlying26
  by_cases h0 : C.win.l = []
  · have hl : C.win.l.length = 0 := by rw [h0]; rfl
    rw [if_pos h0]
    refine calls_x (args := [_]) tabOk Tryz.func67 Tryz.ntmps67 Tryz.results67 rfl (Nat.le_of_ble_eq_true rfl) ?_
    ((conv => whnf); repeat' ((first | ((with_reducible refine br_id ?_); first | (with_reducible refine br_f ?_) | ((with_reducible refine br_eq (fun hx => ?_) (fun hx => ?_)) <;> (try (exfalso; first | omega | exact absurd hx (by assumption) | exact absurd (by assumption) hx)))) | ((with_reducible refine ld_id ?_); ((refine ld_of ((h.keep0 hp.chg).cell rfl) ?_))) | ((with_reducible refine gen_id ?_); (apply gen_len; exact rfl; exact rfl; assumption)) | ((with_reducible refine cl_id ?_); ((refine cl_eq ((cnone_any (h.keep0 hp.chg))) rfl rfl ?_; rintro e w ⟨rfl, hcc⟩; replace hp := hp.call0 hcc; refine ⟨_, rfl, ?_⟩)))) <;> (conv => whnf)))
    exact ps_val (v' := u32 0) rfl ⟨rfl, hp.chg⟩
  · have hl : 0 < C.win.l.length := List.length_pos_iff.2 h0
    rw [if_neg h0]
    have hca := fun {w : World} (hc : Chg N0 w0 w) => cat_any (h.keep0 hc) hl
    rw [Nat.add_zero] at hca
    refine calls_x (args := [_]) tabOk Tryz.func67 Tryz.ntmps67 Tryz.results67 rfl (Nat.le_of_ble_eq_true rfl) ?_
    ((conv => whnf); repeat' ((first | ((with_reducible refine br_id ?_); first | (with_reducible refine br_f ?_) | ((with_reducible refine br_eq (fun hx => ?_) (fun hx => ?_)) <;> (try (exfalso; first | omega | exact absurd hx (by assumption) | exact absurd (by assumption) hx)))) | ((with_reducible refine ld_id ?_); ((refine ld_of ((h.keep0 hp.chg).cell rfl) ?_))) | ((with_reducible refine gen_id ?_); (apply gen_len; exact rfl; exact rfl; assumption)) | ((with_reducible refine cl_id ?_); first | ((refine cl_eq ((cnone_any (h.keep0 hp.chg))) rfl rfl ?_; rintro e w ⟨rfl, hcc⟩; replace hp := hp.call0 hcc; refine ⟨_, rfl, ?_⟩)) | ((refine cl_eq ((hca hp.chg)) rfl rfl ?_; rintro e w ⟨rfl, hcc⟩; replace hp := hp.call0 hcc; refine ⟨_, rfl, ?_⟩)))) <;> (conv => whnf)))
    exact ps_val (v' := u32 (UInt32.ofNat C.low)) rfl ⟨rfl, hp.chg⟩
theorem cwindow_any (h : ChAt w0 b C) : Calls Tryz.prog 80 #[ptr b] w0 fun e w' => ∃ r : Sl Blk, r.l.length = C.win.l.length ∧ e = .returned r.v ∧ Chg N0 w0 w' := by
  have hp := Hp.start (S := N0) w0
  have us := Tryz.underlying26
  have hln := h.len
  have hd := h.dep
  refine calls_x (args := [_]) tabOk Tryz.func80 Tryz.ntmps80 Tryz.results80 rfl (Nat.le_of_ble_eq_true rfl) ?_
  ((conv => whnf); repeat' ((first | ((with_reducible refine br_id ?_); (with_reducible refine br_f ?_)) | ((with_reducible refine ld_id ?_); ((refine ld_of ((h.keep0 hp.chg).cell rfl) ?_))) | ((with_reducible refine gen_id ?_); (apply gen_len; exact rfl; exact rfl; assumption)) | ((with_reducible refine cl_id ?_); ((refine cl_eq ((cnone_any (h.keep0 hp.chg))) rfl rfl ?_; rintro e w ⟨rfl, hcc⟩; replace hp := hp.call0 hcc; refine ⟨_, rfl, ?_⟩)))) <;> (conv => whnf)))
  replace hp := hp.nilRow 54 65 Blk.c
  refine lp_inv (α := Nat × Sl Blk) (fun a => [(3, a.2.v), (11, C.win.v), (12, i64 C.win.l.length), (13, i64 a.1)]) (fun a w => a.1 ≤ C.win.l.length ∧ a.2.l.length = a.1 ∧ Hp N0 w0 w [rowR 54 65 Blk.c a.2]) (fun a => C.win.l.length - a.1) (0, Sl.nil) (by (repeat' (first | exact trivial | (refine ⟨rfl, ?_⟩)))) ⟨by show 0 ≤ _; omega, rfl, hp⟩ ?_
  clear hp
  rintro ⟨i, r⟩ e0 w ⟨hi, hr, hp⟩
  dsimp only at hi hr hp ⊢
  rcases Nat.lt_or_ge i C.win.l.length with hlt | hge
  · have hW := (h.keep0 hp.chg).win
    obtain ⟨b1, o1, y, hA, hb1, hrow, hyy⟩ := h.win.row.has hlt
    have hym := List.mem_of_getElem? hyy
    have hcp := fun {w : World} (hc : Chg N0 w0 w) => copy_any ((h.keep0 hc).win.tx y hym) (by have := (h.nd y hym).2; omega)
    have hB : ∀ b, N0 b → w0.heap.size ≤ b := fun _ hh => hh.elim
    ((conv => whnf); repeat' ((first | ((with_reducible refine br_id ?_); ((with_reducible refine br_dec (fun hx => ?_) (fun hx => ?_)) <;> (try (exfalso; first | omega | exact absurd hx (by assumption) | exact absurd (by assumption) hx)))) | ((with_reducible refine ar_id ?_); (refine ar_i64 (by omega) ?_)) | ((with_reducible refine cn_id ?_); (refine cn rfl ?_)) | ((with_reducible refine ldn_id ?_); first | ((refine ldn_rowx hp hB (by assumption) (by assumption) _ rfl (by assumption) rfl ?_)) | (apply lda_hs hp; (focus ((repeat (first | exact Has.here | apply Has.there)); done)); exact rfl)) | ((with_reducible refine al_id ?_); (refine al_cel hp ?_; clear hp; intro bb w hp)) | ((with_reducible refine st_id ?_); (apply sta_hs hp; (focus ((repeat (first | exact Has.here | apply Has.there)); done)); exact rfl; exact rfl; clear hp; intro w hp; (try dsimp only [List.set] at hp))) | ((with_reducible refine gen_id ?_); first | ((refine gen_ixs rfl rfl (by assumption) rfl rfl (by omega) ?_)) | ((refine gen_bs rfl hp el_blkS Blk.c [{ y with tx := s }] [Blk.v { y with tx := s }] rfl rfl rfl (fun _ hh => by simp at hh; subst hh; rfl) (by omega) ?_); clear hp; intro br w hp) | ((refine gen_app (s := r) rfl hp 2 rfl el_blkS rfl ⟨some ⟨br, 0, none⟩, 1, [{ y with tx := s }]⟩ rfl (hp.row (j := 0) rfl) (fun _ _ => rfl) blk_oneS (by simp only [List.length_cons, List.length_nil]; omega) (by simp only [maxLen, List.length_cons, List.length_nil]; omega) ?_); clear hp; intro A2 c2 w hp; dsimp only [List.set] at hp)) | ((with_reducible refine cl_id ?_); ((refine cl_eq (hcp hp.chg) rfl rfl ?_; rintro e w ⟨s, hs, rfl, hmd⟩; replace hp := hp.call0 hmd.chg; clear hmd; refine ⟨_, rfl, ?_⟩)))) <;> (conv => whnf)))
    refine lp_next (i + 1, ⟨A2, c2, r.l ++ [{ y with tx := s }]⟩) (by show C.win.l.length - (i + 1) < C.win.l.length - i; omega) (by (repeat' (first | exact trivial | (refine ⟨rfl, ?_⟩)))) ⟨by show i + 1 ≤ _; omega, by show (r.l ++ _).length = _; rw [List.length_append, hr]; rfl, hp.pick (rs' := [_]) [2] (by decide) rfl⟩
  · ((conv => whnf); repeat' (((with_reducible refine br_id ?_); ((with_reducible refine br_dec (fun hx => ?_) (fun hx => ?_)) <;> (try (exfalso; first | omega | exact absurd hx (by assumption) | exact absurd (by assumption) hx)))) <;> (conv => whnf)))
    exact ps_of ⟨r, by omega, rfl, hp.chg⟩
theorem ctip_any (h : ChAt w0 b C) : Calls Tryz.prog 182 #[ptr b] w0 fun e w' => ∃ t : Blk, e = .returned (.tuple #[t.v, .bool (decide (C.win.l ≠ []))]) ∧ Chg N0 w0 w' := by
  have hp := Hp.start (S := N0) w0
  have us := Tryz.underlying26
  have hB : ∀ b, N0 b → w0.heap.size ≤ b := fun _ hh => hh.elim
  by_cases h0 : C.win.l = []
  · have hl : C.win.l.length = 0 := by rw [h0]; rfl
    rw [show decide (C.win.l ≠ []) = false by simp [h0]]
    refine calls_x (args := [_]) tabOk Tryz.func182 Tryz.ntmps182 Tryz.results182 rfl (Nat.le_of_ble_eq_true rfl) ?_
    ((conv => whnf); repeat' ((first | ((with_reducible refine br_id ?_); first | (with_reducible refine br_f ?_) | ((with_reducible refine br_eq (fun hx => ?_) (fun hx => ?_)) <;> (try (exfalso; first | omega | exact absurd hx (by assumption) | exact absurd (by assumption) hx)))) | ((with_reducible refine cn_id ?_); (refine cn rfl ?_)) | ((with_reducible refine ld_id ?_); ((refine ld_of ((h.keep0 hp.chg).cell rfl) ?_))) | ((with_reducible refine ldn_id ?_); (apply lda_hs hp; (focus ((repeat (first | exact Has.here | apply Has.there)); done)); exact rfl)) | ((with_reducible refine al_id ?_); (refine al_cel hp ?_; clear hp; intro bb w hp)) | ((with_reducible refine st_id ?_); (apply sta_hs hp; (focus ((repeat (first | exact Has.here | apply Has.there)); done)); exact rfl; exact rfl; clear hp; intro w hp; (try dsimp only [List.set] at hp))) | ((with_reducible refine gen_id ?_); first | ((refine gen_build (t := 54) (out := (Blk.c ⟨Id.z, Id.z, Sl.nil⟩)) rfl (by kernel_rfl) ?_)) | (apply gen_len; exact rfl; exact rfl; assumption)) | ((with_reducible refine cl_id ?_); ((refine cl_eq ((cnone_any (h.keep0 hp.chg))) rfl rfl ?_; rintro e w ⟨rfl, hcc⟩; replace hp := hp.call0 hcc; refine ⟨_, rfl, ?_⟩)))) <;> (conv => whnf)))
    exact ps_of ⟨⟨Id.z, Id.z, Sl.nil⟩, rfl, hp.chg⟩
  · have hl : 0 < C.win.l.length := List.length_pos_iff.2 h0
    rw [show decide (C.win.l ≠ []) = true by simp [h0]]
    obtain ⟨n, hn⟩ : ∃ n : Nat, C.win.l.length = n + 1 := ⟨_, (Nat.sub_add_cancel hl).symm⟩
    have hn2 : ((C.win.l.length : Int) - 1) = (n : Nat) := by omega
    have hn3 : ((C.win.l.length : Int) - 1).toNat = n := by omega
    have hlt : n < C.win.l.length := by omega
    have hmax : n ≤ 100 := by have := h.len; have := h.dep; omega
    obtain ⟨b1, o1, y, hA, hb1, hrow, hxx⟩ := h.win.row.has hlt
    have hym := List.mem_of_getElem? hxx
    have hcp := fun {w : World} (hc : Chg N0 w0 w) => copy_any ((h.keep0 hc).win.tx y hym) (by have := (h.nd y hym).2; omega)
    refine calls_x (args := [_]) tabOk Tryz.func182 Tryz.ntmps182 Tryz.results182 rfl (Nat.le_of_ble_eq_true rfl) ?_
    ((conv => whnf); repeat' ((first | ((with_reducible refine br_id ?_); first | (with_reducible refine br_f ?_) | ((with_reducible refine br_eq (fun hx => ?_) (fun hx => ?_)) <;> (try (exfalso; first | omega | exact absurd hx (by assumption) | exact absurd (by assumption) hx)))) | ((with_reducible refine ld_id ?_); ((refine ld_of ((h.keep0 hp.chg).cell rfl) ?_))) | ((with_reducible refine al_id ?_); (refine al_cel hp ?_; clear hp; intro bb w hp)) | ((with_reducible refine gen_id ?_); (apply gen_len; exact rfl; exact rfl; assumption)) | ((with_reducible refine cl_id ?_); ((refine cl_eq ((cnone_any (h.keep0 hp.chg))) rfl rfl ?_; rintro e w ⟨rfl, hcc⟩; replace hp := hp.call0 hcc; refine ⟨_, rfl, ?_⟩)))) <;> (conv => whnf)))
    refine dr_autos [] 1000 tabOk (by kernel_rfl) (by decide +kernel) ?_
    replace hp := hp.drew
    ((conv => whnf); repeat' ((first | ((with_reducible refine ar_id ?_); (refine ar_i64 (by omega) ?_)) | ((with_reducible refine cn_id ?_); first | (refine cn rfl ?_) | (refine cn (by assumption) ?_)) | ((with_reducible refine ld_id ?_); ((refine ld_of ((h.keep0 hp.chg).cell rfl) ?_))) | ((with_reducible refine ldn_id ?_); first | ((refine ldn_rowx hp hB hb1 hrow n (by rw [hn3]; rfl) hxx rfl ?_)) | (apply lda_hs hp; (focus ((repeat (first | exact Has.here | apply Has.there)); done)); exact rfl)) | ((with_reducible refine st_id ?_); (apply sta_hs hp; (focus ((repeat (first | exact Has.here | apply Has.there)); done)); exact rfl; exact rfl; clear hp; intro w hp; (try dsimp only [List.set] at hp))) | ((with_reducible refine cl_id ?_); ((refine cl_eq (hcp hp.chg) rfl rfl ?_; rintro e w ⟨s, hs, rfl, hmd⟩; replace hp := hp.call0 hmd.chg; replace hmd := hmd.chg; refine ⟨_, rfl, ?_⟩))) | ((with_reducible refine rd_id ?_); first | ((refine rd_ixs rfl rfl hA rfl rfl (by omega) ?_)) | (apply rd_len; exact rfl; exact rfl; assumption))) <;> (conv => whnf)))
    exact ps_val (v' := .tuple #[Blk.v { y with tx := s }, .bool true]) rfl ⟨_, rfl, hp.chg⟩
theorem cfind_any (h : ChAt w0 b C) (x : Id) : Calls Tryz.prog 183 #[ptr b, x.v] w0 fun e w' => ∃ m q, e = .returned (.tuple #[.int .u32 m, .bool q]) ∧ Chg N0 w0 w' := by
  have hp := Hp.start (S := N0) w0
  have us := Tryz.underlying26
  have hB : ∀ b, N0 b → w0.heap.size ≤ b := fun _ hh => hh.elim
  have hln := h.len
  have hd := h.dep
  refine calls_x (args := [_, _]) tabOk Tryz.func183 Tryz.ntmps183 Tryz.results183 rfl (Nat.le_of_ble_eq_true rfl) ?_
  ((conv => whnf); repeat' ((first | ((with_reducible refine br_id ?_); (with_reducible refine br_f ?_)) | ((with_reducible refine ld_id ?_); ((refine ld_of ((h.keep0 hp.chg).cell rfl) ?_))) | ((with_reducible refine al_id ?_); (refine al_cel hp ?_; clear hp; intro bb w hp)) | ((with_reducible refine gen_id ?_); (apply gen_len; exact rfl; exact rfl; assumption)) | ((with_reducible refine cl_id ?_); ((refine cl_eq ((cnone_any (h.keep0 hp.chg))) rfl rfl ?_; rintro e w ⟨rfl, hcc⟩; replace hp := hp.call0 hcc; refine ⟨_, rfl, ?_⟩)))) <;> (conv => whnf)))
  obtain ⟨b3, hb3⟩ : ∃ x : Nat, x = bb := ⟨_, rfl⟩
  subst hb3
  refine lp_inv (α := Nat) (fun i => [(0, ptr b), (3, ptr b3), (13, C.win.v), (14, i64 C.win.l.length), (15, i64 i)]) (fun i w => i ≤ C.win.l.length ∧ Hp N0 w0 w [cel b3 44 x.c.toArray]) (fun i => C.win.l.length - i) 0 (by (repeat' (first | exact trivial | (refine ⟨rfl, ?_⟩)))) ⟨by show 0 ≤ _; omega, hp⟩ ?_
  clear hp
  rintro i e0 w ⟨hi, hp⟩
  dsimp only at hi hp ⊢
  rcases Nat.lt_or_ge i C.win.l.length with hlt | hge
  · obtain ⟨b1, o1, y, hA, hb1, hrow, hxx⟩ := h.win.row.has hlt
    ((conv => whnf); repeat' ((first | ((with_reducible refine br_id ?_); first | ((with_reducible refine br_dec (fun hx => ?_) (fun hx => ?_)) <;> (try (exfalso; first | omega | exact absurd hx (by assumption) | exact absurd (by assumption) hx))) | ((with_reducible refine br_s (fun hx => ?_) (fun hx => ?_)) <;> (try (exfalso; first | omega | exact absurd hx (by assumption) | exact absurd (by assumption) hx)))) | ((with_reducible refine ar_id ?_); (refine ar_i64 (by omega) ?_)) | ((with_reducible refine cn_id ?_); (refine cn rfl ?_)) | ((with_reducible refine ldn_id ?_); first | ((refine ldn_rowx hp hB (by assumption) (by assumption) _ rfl (by assumption) rfl ?_)) | (apply lda_hs hp; (focus ((repeat (first | exact Has.here | apply Has.there)); done)); exact rfl) | (apply ldn_hs hp; (focus ((repeat (first | exact Has.here | apply Has.there)); done)); exact rfl; exact rfl)) | ((with_reducible refine al_id ?_); (refine al_cel hp ?_; clear hp; intro bb w hp)) | ((with_reducible refine st_id ?_); (apply sta_hs hp; (focus ((repeat (first | exact Has.here | apply Has.there)); done)); exact rfl; exact rfl; clear hp; intro w hp; (try dsimp only [List.set] at hp))) | ((with_reducible refine gen_id ?_); first | ((refine gen_ixs rfl rfl (by assumption) rfl rfl (by omega) ?_)) | ((refine gen_eqa rfl rfl rfl (eq_id y.hash x) (by kernel_rfl) (.inl rfl) ?_))) | ((with_reducible refine cl_id ?_); ((refine cl_eq ((cat_any (h.keep0 hp.chg) hlt)) rfl rfl ?_; rintro e w ⟨rfl, hcc⟩; replace hp := hp.call0 hcc; refine ⟨_, rfl, ?_⟩)))) <;> (conv => whnf)))
    all_goals first
      | exact ps_val (v' := .tuple #[u32 (UInt32.ofNat (C.low + i)), .bool true]) rfl ⟨_, _, rfl, hp.chg⟩
      | exact lp_next (i + 1) (by show C.win.l.length - (i + 1) < C.win.l.length - i; omega) (by (repeat' (first | exact trivial | (refine ⟨rfl, ?_⟩)))) ⟨by show i + 1 ≤ _; omega, hp.pick (rs' := [_]) [1] (by decide) rfl⟩
  · ((conv => whnf); repeat' (((with_reducible refine br_id ?_); ((with_reducible refine br_dec (fun hx => ?_) (fun hx => ?_)) <;> (try (exfalso; first | omega | exact absurd hx (by assumption) | exact absurd (by assumption) hx)))) <;> (conv => whnf)))
    exact ps_val (v' := .tuple #[.int .u32 0, .bool false]) rfl ⟨_, _, rfl, hp.chg⟩
theorem bchild_any (w0 : World) (p x : Blk) : Calls Tryz.prog 184 #[p.v, x.v] w0 fun e w' => e = .returned (.bool (decide (x.parent = p.hash))) ∧ Chg N0 w0 w' := by
  have hp := Hp.start (S := N0) w0
  refine calls_x (args := [_, _]) tabOk Tryz.func184 Tryz.ntmps184 Tryz.results184 rfl (Nat.le_of_ble_eq_true rfl) ?_
  ((conv => whnf); repeat' ((first | ((with_reducible refine ldn_id ?_); (apply ldn_hs hp; (focus ((repeat (first | exact Has.here | apply Has.there)); done)); exact rfl; exact rfl)) | ((with_reducible refine al_id ?_); (refine al_cel hp ?_; clear hp; intro bb w hp)) | ((with_reducible refine gen_id ?_); ((refine gen_eqa rfl rfl rfl (eq_id x.parent p.hash) (by kernel_rfl) (.inl rfl) ?_)))) <;> (conv => whnf)))
  exact ps_val (v' := .bool (decide (x.parent = p.hash))) rfl ⟨rfl, hp.chg⟩
theorem cmay_any (h : ChAt w0 b C) {x : Blk} {D : Nat} (hx : SlAt D w0 Id.c 32 x.tx) : Calls Tryz.prog 105 #[ptr b, x.v] w0 fun e w' => ∃ E : Int, (E = 0 → rightB x = true ∧ (C.ht.toNat : Int) ≠ 4294967295) ∧ e = .returned (i64 E) ∧ Chg N0 w0 w' := by
  have hp := Hp.start (S := N0) w0
  have hD : ∀ b, N0 b → D ≤ b := fun _ hh => hh.elim
  have hri := fun {w : World} (hc : Chg N0 w0 w) => blkright_any (hx.keep hc hD)
  obtain ⟨R, hR⟩ : ∃ R, rightB x = R := ⟨_, rfl⟩
  obtain ⟨q0, hq0⟩ : ∃ q, decide (C.win.l ≠ []) = q := ⟨_, rfl⟩
  have htp := fun {w : World} (hc : Chg N0 w0 w) => ctip_any (h.keep0 hc)
  rw [hq0] at htp
  rw [hR] at hri ⊢
  refine calls_x (args := [_, _]) tabOk Tryz.func105 Tryz.ntmps105 Tryz.results105 rfl (Nat.le_of_ble_eq_true rfl) ?_
  ((conv => whnf); repeat' ((first | ((with_reducible refine br_id ?_); first | (with_reducible refine br_t ?_) | (with_reducible refine br_f ?_) | (with_reducible refine br_not ?_) | ((with_reducible refine br_dec (fun hx => ?_) (fun hx => ?_)) <;> (try (exfalso; first | omega | exact absurd hx (by assumption) | exact absurd (by assumption) hx))) | ((with_reducible refine br_eq (fun hx => ?_) (fun hx => ?_)) <;> (try (exfalso; first | omega | exact absurd hx (by assumption) | exact absurd (by assumption) hx))) | ((with_reducible refine br_s (fun hx => ?_) (fun hx => ?_)) <;> (try (exfalso; first | omega | exact absurd hx (by assumption) | exact absurd (by assumption) hx)))) | ((with_reducible refine cn_id ?_); (refine cn rfl ?_)) | ((with_reducible refine ld_id ?_); ((refine ld_of ((h.keep0 hp.chg).cell rfl) ?_))) | ((with_reducible refine ldn_id ?_); first | (apply lda_hs hp; (focus ((repeat (first | exact Has.here | apply Has.there)); done)); exact rfl) | (apply ldn_hs hp; (focus ((repeat (first | exact Has.here | apply Has.there)); done)); exact rfl; exact rfl)) | ((with_reducible refine al_id ?_); (refine al_cel hp ?_; clear hp; intro bb w hp)) | ((with_reducible refine st_id ?_); (apply sta_hs hp; (focus ((repeat (first | exact Has.here | apply Has.there)); done)); exact rfl; exact rfl; clear hp; intro w hp; (try dsimp only [List.set] at hp))) | ((with_reducible refine cl_id ?_); first | ((refine cl_eq ((cnone_any (h.keep0 hp.chg))) rfl rfl ?_; rintro e w ⟨rfl, hcc⟩; replace hp := hp.call0 hcc; refine ⟨_, rfl, ?_⟩)) | ((refine cl_eq ((hri hp.chg)) rfl rfl ?_; rintro e w ⟨rfl, hcc⟩; replace hp := hp.call0 hcc; refine ⟨_, rfl, ?_⟩)) | ((refine cl_eq ((bchild_any _ t x)) rfl rfl ?_; rintro e w ⟨rfl, hcc⟩; replace hp := hp.call0 hcc; refine ⟨_, rfl, ?_⟩)) | ((refine cl_eq (htp hp.chg) rfl rfl ?_; rintro e w ⟨t, rfl, hcc⟩; replace hp := hp.call0 hcc; refine ⟨_, rfl, ?_⟩)) | ((refine cl_eq (cfind_any (h.keep0 hp.chg) x.hash) rfl rfl ?_; rintro e w ⟨m, q, rfl, hcc⟩; replace hp := hp.call0 hcc; refine ⟨_, rfl, ?_⟩)))) <;> (conv => whnf)))
  all_goals first
    | exact ps_val (v' := i64 0) rfl ⟨0, fun _ => ⟨by assumption, by omega⟩, rfl, hp.chg⟩
    | exact ps_val (v' := i64 4) rfl ⟨4, fun h0 => absurd h0 (by decide), rfl, hp.chg⟩
    | exact ps_val (v' := i64 19) rfl ⟨19, fun h0 => absurd h0 (by decide), rfl, hp.chg⟩
    | exact ps_val (v' := i64 16) rfl ⟨16, fun h0 => absurd h0 (by decide), rfl, hp.chg⟩
end
end Go.Proofs.YteabebmlclgakaaGreat
/- ShaP: SHA-256 as plain Lean. No condition. -/
namespace Go.Proofs.YteabebmlclgakaaGreat
set_option linter.unusedSimpArgs false
set_option linter.unusedVariables false
open Go.RowKit
structure S8 where
  a : UInt32
  b : UInt32
  c : UInt32
  d : UInt32
  e : UInt32
  f : UInt32
  g : UInt32
  h : UInt32
abbrev S8.l (s : S8) : List UInt32 := [s.a, s.b, s.c, s.d, s.e, s.f, s.g, s.h]
def rot (x : UInt32) (n : Nat) : UInt32 := sr x n ||| sl x (32 - n)
def x3 (x y z : UInt32) : UInt32 := (x ^^^ y) ^^^ z
def sg0 (x : UInt32) : UInt32 := x3 (rot x 7) (rot x 18) (sr x 3)
def sg1 (x : UInt32) : UInt32 := x3 (rot x 17) (rot x 19) (sr x 10)
def ep1 (x : UInt32) : UInt32 := x3 (rot x 6) (rot x 11) (rot x 25)
def ep0 (x : UInt32) : UInt32 := x3 (rot x 2) (rot x 13) (rot x 22)
def ch (x y z : UInt32) : UInt32 := z ^^^ (x &&& (y ^^^ z))
def maj (x y z : UInt32) : UInt32 := (x &&& y) ||| (z &&& (x ||| y))
theorem ch_eq (x y z : UInt32) : (x &&& y) ^^^ ((4294967295 ^^^ x) &&& z) = ch x y z := by
  apply UInt32.toBitVec_inj.1
  simp only [ch, UInt32.toBitVec_xor, UInt32.toBitVec_and]
  ext i hi
  have h1 : (4294967295#32)[i] = true := by
    have : (4294967295#32) = BitVec.allOnes 32 := by decide
    simp only [this, BitVec.getElem_allOnes]
  have h2 : (UInt32.toBitVec 4294967295)[i] = true := h1
  simp only [BitVec.getElem_xor, BitVec.getElem_and, h2]
  cases x.toBitVec[i] <;> cases y.toBitVec[i] <;> cases z.toBitVec[i] <;> rfl
theorem maj_eq (x y z : UInt32) : ((x &&& y) ^^^ (x &&& z)) ^^^ (y &&& z) = maj x y z := by
  apply UInt32.toBitVec_inj.1
  simp only [maj, UInt32.toBitVec_xor, UInt32.toBitVec_and, UInt32.toBitVec_or]
  ext i hi
  simp only [BitVec.getElem_xor, BitVec.getElem_and, BitVec.getElem_or]
  cases x.toBitVec[i] <;> cases y.toBitVec[i] <;> cases z.toBitVec[i] <;> rfl
def shaK : List UInt32 := [0x428a2f98, 0x71374491, 0xb5c0fbcf, 0xe9b5dba5, 0x3956c25b, 0x59f111f1, 0x923f82a4, 0xab1c5ed5] ++
  [0xd807aa98, 0x12835b01, 0x243185be, 0x550c7dc3, 0x72be5d74, 0x80deb1fe, 0x9bdc06a7, 0xc19bf174] ++
  [0xe49b69c1, 0xefbe4786, 0x0fc19dc6, 0x240ca1cc, 0x2de92c6f, 0x4a7484aa, 0x5cb0a9dc, 0x76f988da] ++
  [0x983e5152, 0xa831c66d, 0xb00327c8, 0xbf597fc7, 0xc6e00bf3, 0xd5a79147, 0x06ca6351, 0x14292967] ++
  [0x27b70a85, 0x2e1b2138, 0x4d2c6dfc, 0x53380d13, 0x650a7354, 0x766a0abb, 0x81c2c92e, 0x92722c85] ++
  [0xa2bfe8a1, 0xa81a664b, 0xc24b8b70, 0xc76c51a3, 0xd192e819, 0xd6990624, 0xf40e3585, 0x106aa070] ++
  [0x19a4c116, 0x1e376c08, 0x2748774c, 0x34b0bcb5, 0x391c0cb3, 0x4ed8aa4a, 0x5b9cca4f, 0x682e6ff3] ++
  [0x748f82ee, 0x78a5636f, 0x84c87814, 0x8cc70208, 0x90befffa, 0xa4506ceb, 0xbef9a3f7, 0xc67178f2]
def shaS : S8 := ⟨0x6a09e667, 0xbb67ae85, 0x3c6ef372, 0xa54ff53a, 0x510e527f, 0x9b05688c, 0x1f83d9ab, 0x5be0cd19⟩
/-- a list's word -/
def nth (l : List UInt32) (i : Nat) : UInt32 := l.getD i 0
theorem nth_get {l : List UInt32} {i : Nat} (h : i < l.length) : l[i]? = some (nth l i) := by
  unfold nth
  rw [List.getD_eq_getElem?_getD, List.getElem?_eq_getElem h]
  rfl
theorem nth_app {l r : List UInt32} {i : Nat} (h : i < l.length) : nth (l ++ r) i = nth l i := by
  unfold nth
  rw [List.getD_eq_getElem?_getD, List.getD_eq_getElem?_getD, List.getElem?_append_left h]
/-- the next word -/
def nextW (l : List UInt32) : UInt32 := ((sg1 (nth l (l.length - 2)) + nth l (l.length - 7)) + sg0 (nth l (l.length - 15))) + nth l (l.length - 16)
def sched (l : List UInt32) : Nat → List UInt32
  | 0 => l
  | n + 1 => sched l n ++ [nextW (sched l n)]
theorem sched_len (l : List UInt32) : ∀ n, (sched l n).length = l.length + n
  | 0 => rfl
  | n + 1 => by rw [sched, List.length_append, sched_len l n]; rfl
def rnd (k w : UInt32) (v : S8) : S8 :=
  ⟨((((v.h + ep1 v.e) + ch v.e v.f v.g) + k) + w) + (ep0 v.a + maj v.a v.b v.c), v.a, v.b, v.c, v.d + ((((v.h + ep1 v.e) + ch v.e v.f v.g) + k) + w), v.e, v.f, v.g⟩
def rnds (W : List UInt32) (v : S8) : Nat → S8
  | 0 => v
  | n + 1 => rnd (nth shaK n) (nth W n) (rnds W v n)
def wrd (a b c d : UInt8) : UInt32 := UInt32.ofNat (((a.toNat * 256 + b.toNat) * 256 + c.toNat) * 256 + d.toNat)
def wordsOf : List UInt8 → List UInt32
  | a :: b :: c :: d :: r => wrd a b c d :: wordsOf r
  | _ => []
def S8.add (v s : S8) : S8 := ⟨v.a + s.a, v.b + s.b, v.c + s.c, v.d + s.d, v.e + s.e, v.f + s.f, v.g + s.g, v.h + s.h⟩
def takeS (s : S8) (p : List UInt8) : S8 := (rnds (sched (wordsOf p) 48) s 64).add s
/-- n pieces -/
def piecesS (s : S8) (b : List UInt8) : Nat → S8
  | 0 => s
  | n + 1 => takeS (piecesS s b n) ((b.drop (64 * n)).take 64)
def bytesOf (l : List UInt32) : List UInt8 := l.flatMap fun x => [byt x 24, byt x 16, byt x 8, byt x 0]
def be8 (n : Nat) : List UInt8 := [UInt8.ofNat (n / 2 ^ 56), UInt8.ofNat (n / 2 ^ 48), UInt8.ofNat (n / 2 ^ 40), UInt8.ofNat (n / 2 ^ 32), UInt8.ofNat (n / 2 ^ 24), UInt8.ofNat (n / 2 ^ 16), UInt8.ofNat (n / 2 ^ 8), UInt8.ofNat n]
def padK (n : Nat) : Nat := (119 - n % 64) % 64
def endS (n : Nat) : List UInt8 := 128 :: (List.replicate (padK n) 0 ++ be8 (8 * n % 2 ^ 64))
def padded (b : List UInt8) : List UInt8 := b ++ endS b.length
def shaL (b : List UInt8) : List UInt8 := bytesOf (piecesS shaS (padded b) ((padded b).length / 64)).l
theorem padded_len (b : List UInt8) : (padded b).length % 64 = 0 := by
  simp only [padded, endS, be8, List.length_append, List.length_cons, List.length_replicate, List.length_nil, padK]
  omega
theorem bytesOf_len (l : List UInt32) : (bytesOf l).length = 4 * l.length := by
  induction l with
  | nil => rfl
  | cons x l ih => rw [bytesOf, List.flatMap_cons, List.length_append, ← bytesOf, ih]; simp; omega
theorem shaL_len (b : List UInt8) : (shaL b).length = 32 := by rw [shaL, bytesOf_len]; rfl
theorem wordsOf_len : ∀ (n : Nat) (b : List UInt8), b.length = 4 * n → (wordsOf b).length = n
  | 0, [], _ => rfl
  | n + 1, a :: b :: c :: d :: r, h => by
    rw [wordsOf, List.length_cons, wordsOf_len n r (by simp at h; omega)]
  | n + 1, [], h => by simp at h
  | n + 1, [_], h => by simp at h; omega
  | n + 1, [_, _], h => by simp at h; omega
  | n + 1, [_, _, _], h => by simp at h; omega
  | 0, _ :: _, h => by simp at h
theorem wordsOf_drop (b : List UInt8) (i : Nat) (h : i + 4 ≤ b.length) : wordsOf (b.drop i) = wrd (b[i]) (b[i + 1]) (b[i + 2]) (b[i + 3]) :: wordsOf (b.drop (i + 4)) := by
  rw [List.drop_eq_getElem_cons (by omega : i < b.length), List.drop_eq_getElem_cons (by omega : i + 1 < b.length), List.drop_eq_getElem_cons (by omega : i + 1 + 1 < b.length), List.drop_eq_getElem_cons (by omega : i + 1 + 1 + 1 < b.length)]
  rfl
theorem wordsOf_take (b : List UInt8) : ∀ (n : Nat), 4 * (n + 1) ≤ b.length → wordsOf (b.take (4 * (n + 1))) = wordsOf (b.take (4 * n)) ++ [wrd (b.getD (4 * n) 0) (b.getD (4 * n + 1) 0) (b.getD (4 * n + 2) 0) (b.getD (4 * n + 3) 0)] := by
  intro n
  induction n generalizing b with
  | zero =>
    intro h
    match b, h with
    | a :: b :: c :: d :: r, _ => simp [wordsOf]
    | [], h => simp at h
    | [_], h => simp at h
    | [_, _], h => simp at h
    | [_, _, _], h => simp at h
  | succ n ih =>
    intro h
    match b, h with
    | a :: b :: c :: d :: r, h =>
      have h1 := ih r (by simp at h; omega)
      rw [show 4 * (n + 1 + 1) = 4 * (n + 1) + 1 + 1 + 1 + 1 by omega, show 4 * (n + 1) = 4 * n + 1 + 1 + 1 + 1 by omega]
      simp only [List.take_succ_cons, wordsOf, List.cons_append]
      rw [show 4 * n + 1 + 1 + 1 + 1 = 4 * (n + 1) by omega, h1]
      simp only [show 4 * (n + 1) = 4 * n + 1 + 1 + 1 + 1 by omega, show 4 * n + 1 + 1 + 1 + 1 + 1 = (4 * n + 1) + 1 + 1 + 1 + 1 by omega, show 4 * n + 1 + 1 + 1 + 1 + 2 = (4 * n + 2) + 1 + 1 + 1 + 1 by omega, show 4 * n + 1 + 1 + 1 + 1 + 3 = (4 * n + 3) + 1 + 1 + 1 + 1 by omega, List.getD_cons_succ]
    | [], h => simp at h
    | [_], h => simp at h; omega
    | [_, _], h => simp at h; omega
    | [_, _, _], h => simp at h; omega
/-- pieces behind pieces -/
theorem pieces_pre (s : S8) (b c : List UInt8) : ∀ (n : Nat), 64 * n ≤ b.length → piecesS s (b ++ c) n = piecesS s b n
  | 0, _ => rfl
  | n + 1, h => by
    rw [piecesS, piecesS, pieces_pre s b c n (by omega), List.drop_append_of_le_length (by omega), List.take_append_of_le_length (by rw [List.length_drop]; omega)]
theorem pieces_more (s : S8) (b : List UInt8) (m : Nat) : ∀ (n : Nat), piecesS (piecesS s b m) (b.drop (64 * m)) n = piecesS s b (m + n)
  | 0 => rfl
  | n + 1 => by
    rw [piecesS, pieces_more s b m n, ← Nat.add_assoc, piecesS, List.drop_drop, show 64 * m + 64 * n = 64 * (m + n) by omega]
/-- what a hash holds of all bytes -/
def doneS (b : List UInt8) : S8 := piecesS shaS b (b.length / 64)
def restS (b : List UInt8) : List UInt8 := b.drop (64 * (b.length / 64))
theorem restS_len (b : List UInt8) : (restS b).length = b.length % 64 := by rw [restS, List.length_drop]; omega
theorem done_app (b c : List UInt8) : piecesS (doneS b) (restS b ++ c) ((restS b ++ c).length / 64) = doneS (b ++ c) ∧ (restS b ++ c).drop (64 * ((restS b ++ c).length / 64)) = restS (b ++ c) := by
  have h1 : (b ++ c).drop (64 * (b.length / 64)) = restS b ++ c := by rw [List.drop_append_of_le_length (by omega), restS]
  have h2 : (b.length / 64) + (restS b ++ c).length / 64 = (b ++ c).length / 64 := by
    rw [List.length_append, List.length_append, restS_len]; omega
  constructor
  · have h3 := pieces_more shaS (b ++ c) (b.length / 64) ((restS b ++ c).length / 64)
    rw [h1, pieces_pre shaS b c _ (by omega), h2] at h3
    exact h3
  · rw [← h1, List.drop_drop, restS, ← h2, h1]
    congr 1
    omega
theorem sha_of (b : List UInt8) : shaL b = bytesOf (doneS (b ++ endS b.length)).l := rfl
/-- a byte as a word -/
abbrev u84 (x : UInt8) : UInt32 := UInt32.ofNat x.toNat
theorem u84_nat (x : UInt8) : (u84 x).toNat = x.toNat := by
  have := x.toNat_lt
  simp only [u84, UInt32.toNat_ofNat']
  exact Nat.mod_eq_of_lt (by omega)
theorem ar_u84 {f : Int → Prop} (x : UInt8) (h : f ((u84 x).toNat : Int)) : Ar .u32 (x.toNat : Int) f := by
  refine ⟨_, ?_, h⟩
  rw [wrap_u32]
theorem or_add (a b i : Nat) (h : b < 2 ^ i) : a * 2 ^ i ||| b = a * 2 ^ i + b := by
  rw [← Nat.shiftLeft_eq, Nat.shiftLeft_add_eq_or_of_lt h]
theorem wrd_or (a b c d : UInt8) : ((sl (u84 a) 24 ||| sl (u84 b) 16) ||| sl (u84 c) 8) ||| u84 d = wrd a b c d := by
  have ha := a.toNat_lt
  have hb := b.toNat_lt
  have hc := c.toNat_lt
  have hd := d.toNat_lt
  apply UInt32.toNat_inj.1
  rw [UInt32.toNat_or, UInt32.toNat_or, UInt32.toNat_or, sl_nat, sl_nat, sl_nat, u84_nat, u84_nat, u84_nat, u84_nat]
  rw [Nat.mod_eq_of_lt (by omega : a.toNat * 2 ^ 24 < 4294967296), Nat.mod_eq_of_lt (by omega : b.toNat * 2 ^ 16 < 4294967296), Nat.mod_eq_of_lt (by omega : c.toNat * 2 ^ 8 < 4294967296)]
  rw [or_add a.toNat _ 24 (by omega)]
  rw [show a.toNat * 2 ^ 24 + b.toNat * 2 ^ 16 = (a.toNat * 256 + b.toNat) * 2 ^ 16 by omega, or_add _ _ 16 (by omega)]
  rw [show (a.toNat * 256 + b.toNat) * 2 ^ 16 + c.toNat * 2 ^ 8 = ((a.toNat * 256 + b.toNat) * 256 + c.toNat) * 2 ^ 8 by omega, or_add _ _ 8 (by omega)]
  simp only [wrd, UInt32.toNat_ofNat']
  exact (Nat.mod_eq_of_lt (by omega)).symm
theorem wrd_nat (a b c d : UInt8) : (wrd a b c d).toNat = ((a.toNat * 256 + b.toNat) * 256 + c.toNat) * 256 + d.toNat := by
  have ha := a.toNat_lt
  have hb := b.toNat_lt
  have hc := c.toNat_lt
  have hd := d.toNat_lt
  simp only [wrd, UInt32.toNat_ofNat']
  exact Nat.mod_eq_of_lt (by omega)
theorem ofNat8 {m n : Nat} (h : m % 256 = n % 256) : UInt8.ofNat m = UInt8.ofNat n := by
  apply UInt8.toNat_inj.1
  simpa using h
theorem be8_of (n : Nat) (h : n < 2 ^ 64) : bytesOf [UInt32.ofNat (n / 2 ^ 32), UInt32.ofNat n] = be8 n := by
  have h1 : (UInt32.ofNat (n / 2 ^ 32)).toNat = n / 2 ^ 32 := by
    simp only [UInt32.toNat_ofNat']
    exact Nat.mod_eq_of_lt (by omega)
  have h2 : (UInt32.ofNat n).toNat = n % 2 ^ 32 := by simp only [UInt32.toNat_ofNat']
  simp only [bytesOf, be8, byt, List.flatMap_cons, List.flatMap_nil, List.append_nil, List.cons_append, List.nil_append, h1, h2]
  congr 1
  · exact ofNat8 (by omega)
  congr 1
  · exact ofNat8 (by omega)
  congr 1
  · exact ofNat8 (by omega)
  congr 1
  · exact ofNat8 (by omega)
  congr 1
  · exact ofNat8 (by omega)
  congr 1
  · exact ofNat8 (by omega)
  congr 1
  · exact ofNat8 (by omega)
  congr 1
  · exact ofNat8 (by omega)
end Go.Proofs.YteabebmlclgakaaGreat
