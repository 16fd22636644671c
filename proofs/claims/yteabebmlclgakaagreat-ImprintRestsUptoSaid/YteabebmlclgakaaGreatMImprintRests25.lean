/- MImprintRests25: StaP, ChLoad. -/
import Derived.Test.YteabebmlclgakaaGreatMImprintRests8
import Derived.Test.YteabebmlclgakaaGreatMImprintRests24
import Derived.Test.YteabebmlclgakaaGreatMImprintRests17
/- StaP: states as they are told; states of the call's own. No condition. -/
namespace Go.Proofs.YteabebmlclgakaaGreat
set_option linter.unusedSimpArgs false
set_option linter.unusedVariables false
open Go.RowKit
set_option maxRecDepth 100000
set_option maxHeartbeats 2000000
structure BlkP where
  hash : Id
  parent : Id
  txs : List Id
deriving DecidableEq
def Blk.p (x : Blk) : BlkP := ⟨x.hash, x.parent, x.tx.l⟩
structure StaP where
  cfg : Cfg
  ht : UInt32
  halt : Int
  next : UInt32
  win : List BlkP
  ses : List Sess
  blobs : List BlP
  jobs : List JobP
deriving DecidableEq
def Sta.p (x : Sta) : StaP := ⟨x.cfg, x.ht, x.halt, x.next, x.win.l.map Blk.p, x.ses.l, x.blobs.l.map Blob.p, x.jobs.l.map Job.p⟩
def restJ (j : JobP) : JobP := { j with live := -1 }
def restP (s : StaP) : StaP := { s with jobs := s.jobs.map restJ }
theorem restP_rest (s : StaP) : restP (restP s) = restP s := by
  unfold restP
  simp [List.map_map, Function.comp_def, restJ]
/-- the rows of an own state -/
abbrev btxR (b : Blk) : Res := rowR 44 32 Id.c b.tx
abbrev bdatR (b : Blob) : Res := rowR 5 1 u8L b.data
def jpayR (j : Job) : Res := star (payRs j.pay)
abbrev winRs (s : Sl Blk) : List Res := rowR 54 65 Blk.c s :: s.l.map btxR
abbrev blobRs (s : Sl Blob) : List Res := rowR 40 19 Blob.c s :: s.l.map bdatR
abbrev jobRs (s : Sl Job) : List Res := rowR 49 38 Job.c s :: s.l.map jpayR
abbrev sesR (s : Sl Sess) : Res := rowR 56 4 Sess.c s
abbrev staRs (x : Sta) : List Res := [star (winRs x.win), sesR x.ses, star (blobRs x.blobs), star (jobRs x.jobs)]
theorem winRs_at {w : World} {s : Sl Blk} (h : (star (winRs s)).ok w) : SlAt w.heap.size w Blk.c 65 s ∧ ∀ b ∈ s.l, SlAt w.heap.size w Id.c 32 b.tx := by
  have hp := Hp.open h
  exact ⟨hp.row (j := 0) rfl, fun b hb => rowR_at (e := 44) (hp.ok (btxR b) (List.mem_cons_of_mem _ (List.mem_map_of_mem hb)))⟩
theorem blobRs_at {w : World} {s : Sl Blob} (h : (star (blobRs s)).ok w) : BlobsAt w.heap.size w s := by
  have hp := Hp.open h
  exact ⟨hp.row (j := 0) rfl, fun b hb => rowR_at (e := 5) (hp.ok (bdatR b) (List.mem_cons_of_mem _ (List.mem_map_of_mem hb)))⟩
theorem jobRs_at {w : World} {s : Sl Job} (h : (star (jobRs s)).ok w) : SlAt w.heap.size w Job.c 38 s ∧ ∀ j ∈ s.l, PayAt w.heap.size w j.pay := by
  have hp := Hp.open h
  refine ⟨hp.row (j := 0) rfl, fun j hj => ?_⟩
  have h1 : (jpayR j).ok w := hp.ok (jpayR j) (List.mem_cons_of_mem _ (List.mem_map_of_mem hj))
  exact payRs_at (Hp.open (show (star (payRs j.pay)).ok w from h1)) (List.Sublist.refl _)
theorem staRs_at {w : World} {x : Sta} (h : (star (staRs x)).ok w) : StaAt w.heap.size w x := by
  have hp := Hp.open h
  have h1 := winRs_at (hp.get (j := 0) rfl)
  have h3 := blobRs_at (hp.get (j := 2) rfl)
  have h4 := jobRs_at (hp.get (j := 3) rfl)
  exact ⟨h1.1, h1.2, hp.row (j := 1) rfl, h3, h4.1, h4.2⟩
theorem StaAt.keep0 {w w' : World} {x : Sta} (h : StaAt w.heap.size w x) (hc : Chg N0 w w') : StaAt w'.heap.size w' x := (h.keep hc fun _ hh => hh.elim).more hc.size
theorem Hp.sta {S : Nat → Prop} {w0 w : World} {rs : List Res} {x : Sta} (h : Hp S w0 w rs) (hm : star (staRs x) ∈ rs) : StaAt w.heap.size w x := staRs_at (h.ok _ hm)
end Go.Proofs.YteabebmlclgakaaGreat
/- ChLoad: package chain: Load, of any window. No condition but that the window is not too long. -/
namespace Go.Proofs.YteabebmlclgakaaGreat
set_option linter.unusedSimpArgs false
set_option linter.unusedVariables false
open Go.RowKit
set_option maxRecDepth 100000
set_option maxHeartbeats 4000000
/-- may a window be, place by place -/
def winAt (l : List Blk) (i : Nat) : Bool := match l[i]? with
  | some x => rightB x && ((match i with
    | 0 => true
    | k + 1 => match l[k]? with
      | some y => decide (x.parent = y.hash)
      | none => true) && decide (x.hash ∉ (l.take i).map (·.hash)))
  | none => true
def chS (d : Int) (ht : UInt32) (l : List Blk) : Bool := decide (1 ≤ d ∧ d ≤ 16 ∧ (l.length : Int) ≤ d + 1 ∧ l.length ≤ ht.toNat) && (List.range l.length).all (winAt l)
theorem winAt_congr {l m : List Blk} (h : l.map Blk.p = m.map Blk.p) (i : Nat) : winAt l i = winAt m i := by
  have hg : ∀ j : Nat, (l[j]?).map Blk.p = (m[j]?).map Blk.p := fun j => by rw [← List.getElem?_map, ← List.getElem?_map, h]
  have hh : (l.take i).map (·.hash) = (m.take i).map (·.hash) := by
    have e : ∀ l : List Blk, (l.take i).map (·.hash) = ((l.map Blk.p).take i).map (·.hash) := fun l => by rw [← List.map_take, List.map_map]; rfl
    rw [e, e, h]
  have e : ∀ l : List Blk, winAt l i = (match (l[i]?).map Blk.p with
      | some x => ((decide (x.txs.length ≤ 32) && !decide (x.hash = x.parent)) && decide x.txs.Nodup) && ((match i with
        | 0 => true
        | k + 1 => match (l[k]?).map Blk.p with
          | some y => decide (x.parent = y.hash)
          | none => true) && decide (x.hash ∉ (l.take i).map (·.hash)))
      | none => true) := fun l => by
    unfold winAt
    cases l[i]? with
    | none => rfl
    | some t =>
      cases i with
      | zero => rfl
      | succ k =>
        dsimp only [Option.map_some]
        cases l[k]? <;> rfl
  rw [e, e, hg, hh]
  cases i with
  | zero => rfl
  | succ k => dsimp only; rw [hg]
structure ChW (w : World) (b : Nat) (C : Chn) : Prop where
  cel : w.heap[b]? = some (.cells C.c.toArray 159)
  win : RAt w.heap.size w C.win
  dep : 1 ≤ C.depth ∧ C.depth ≤ 16
  len : C.win.l.length ≤ 17
  tx : ∀ c ∈ C.win.l, c.tx.l.length ≤ 32
section
variable {w0 : World} {b : Nat} {C : Chn}
theorem ChW.keep0 {w : World} (h : ChW w0 b C) (hc : Chg N0 w0 w) : ChW w b C :=
  ⟨hc.heap h.cel fun hh => hh, ⟨(h.win.row.keep hc fun _ hh => hh.elim).more hc.size, fun c hm => ((h.win.tx c hm).keep hc fun _ hh => hh.elim).more hc.size⟩, h.dep, h.len, h.tx⟩
theorem ChW.cell (h : ChW w0 b C) {i : Nat} {v : Value} (hi : C.c[i]? = some v) : w0.cell? ⟨b, i, none⟩ = some v := cell_of_heap h.cel (by simpa using hi)
theorem cnoneW_any (h : ChW w0 b C) : Calls Tryz.prog 115 #[ptr b] w0 fun e w' => e = .returned (.bool false) ∧ Chg N0 w0 w' := by
  have hp := Hp.start (S := N0) w0
  have hd := h.dep
  refine calls_x (args := [_]) tabOk Tryz.func115 Tryz.ntmps115 Tryz.results115 rfl (Nat.le_of_ble_eq_true rfl) ?_
  have hd2 : (C.depth == 0) = false := by simp; omega
  ((conv => whnf); repeat' ((first | ((with_reducible refine br_id ?_); (with_reducible refine br_f ?_)) | ((with_reducible refine ld_id ?_); ((refine ld_of ((h.keep0 hp.chg).cell rfl) ?_)))) <;> (conv => whnf)))
  all_goals exact ps_val (v' := .bool (C.depth == 0)) rfl ⟨by rw [hd2], hp.chg⟩
theorem catW_any (h : ChW w0 b C) {i : Nat} (hi : i < C.win.l.length) : Calls Tryz.prog 116 #[ptr b, i64 i] w0 fun e w' => ∃ m, e = .returned (.int .u32 m) ∧ Chg N0 w0 w' := by
  have hp := Hp.start (S := N0) w0
  have us := Tryz.underlying26
  have hlt := C.ht.toNat_lt
  have hln := h.len
  obtain ⟨m1, hm1⟩ : ∃ m, IntKind.u32.wrap ((C.win.l.length : Int) - 1 - i) = m := ⟨_, rfl⟩
  obtain ⟨m2, hm2⟩ : ∃ m, IntKind.u32.wrap ((C.ht.toNat : Int) - m1) = m := ⟨_, rfl⟩
  refine calls_x (args := [_, _]) tabOk Tryz.func116 Tryz.ntmps116 Tryz.results116 rfl (Nat.le_of_ble_eq_true rfl) ?_
  ((conv => whnf); repeat' ((first | ((with_reducible refine br_id ?_); first | (with_reducible refine br_t ?_) | (with_reducible refine br_f ?_) | (with_reducible refine br_not ?_) | ((with_reducible refine br_dec (fun hx => ?_) (fun hx => ?_)) <;> (try (exfalso; first | omega | exact absurd hx (by assumption) | exact absurd (by assumption) hx))) | ((with_reducible refine br_eq (fun hx => ?_) (fun hx => ?_)) <;> (try (exfalso; first | omega | exact absurd hx (by assumption) | exact absurd (by assumption) hx))) | ((with_reducible refine br_ne (fun hx => ?_) (fun hx => ?_)) <;> (try (exfalso; first | omega | exact absurd hx (by assumption) | exact absurd (by assumption) hx))) | ((with_reducible refine br_s (fun hx => ?_) (fun hx => ?_)) <;> (try (exfalso; first | omega | exact absurd hx (by assumption) | exact absurd (by assumption) hx)))) | ((with_reducible refine ar_id ?_); first | (refine ar_i64 (by omega) ?_) | (refine ar_u32 (by omega) ?_) | (refine ar_u64 (by omega) ?_) | (refine ar_u8 (by omega) ?_)) | ((with_reducible refine cn_id ?_); first | (refine cn rfl ?_) | (refine cn (by assumption) ?_) | (refine cn (by omega) ?_) | (refine cn (Chg.refl _ _) ?_)) | ((with_reducible refine ld_id ?_); first | (apply ld_hs hp; (focus ((repeat (first | exact Has.here | apply Has.there)); done)); exact rfl) | (refine ld_of (by assumption) ?_)) | ((with_reducible refine ldn_id ?_); first | (apply lda_hs hp; (focus ((repeat (first | exact Has.here | apply Has.there)); done)); exact rfl) | (apply ldn_hs hp; (focus ((repeat (first | exact Has.here | apply Has.there)); done)); exact rfl; exact rfl)) | ((with_reducible refine al_id ?_); (refine al_cel hp ?_; clear hp; intro bb w hp)) | ((with_reducible refine st_id ?_); first | (apply sta_hs hp; (focus ((repeat (first | exact Has.here | apply Has.there)); done)); exact rfl; exact rfl; clear hp; intro w hp; (try dsimp only [List.set] at hp)) | (apply st_hs hp; (focus ((repeat (first | exact Has.here | apply Has.there)); done)); exact rfl; exact rfl; clear hp; intro w hp; (try dsimp only [List.set] at hp))) | ((with_reducible refine gen_id ?_); first | (apply gen_build; exact rfl; exact rfl) | (apply gen_len; exact rfl; exact rfl; assumption) | (apply gen_min; exact rfl; exact rfl; exact rfl) | (apply gen_max; exact rfl; exact rfl; exact rfl) | (apply gen_ix; exact rfl; exact rfl; exact rfl; exact rfl; omega) | (apply gen_ixa; exact rfl; exact rfl; exact rfl; exact rfl; omega)) | ((with_reducible refine fk_id ?_); (refine fk_mk ?_ ?_)) | ((with_reducible refine rd_id ?_); first | (apply rd_len; exact rfl; exact rfl; assumption) | (apply rd_ix; exact rfl; exact rfl; exact rfl; exact rfl; omega))) <;> (conv => whnf)))
  refine dr_autos [] 1000 tabOk (by kernel_rfl) (by decide +kernel) ?_
  replace hp := hp.drew
  ((conv => whnf); repeat' ((first | ((with_reducible refine ar_id ?_); first | ((with_reducible refine ar_is m1 hm1 ?_)) | ((with_reducible refine ar_is m2 hm2 ?_)) | (refine ar_i64 (by omega) ?_)) | ((with_reducible refine ld_id ?_); ((refine ld_of ((h.keep0 hp.chg).cell rfl) ?_))) | ((with_reducible refine rd_id ?_); first | ((refine rd_conv tabOk rfl rfl rfl rfl ?_)) | (apply rd_len; exact rfl; exact rfl; assumption))) <;> (conv => whnf)))
  all_goals exact ps_val (v' := .int .u32 m2) rfl ⟨_, rfl, hp.chg⟩
theorem ctipW_any (h : ChW w0 b C) : Calls Tryz.prog 182 #[ptr b] w0 fun e w' => ∃ t : Blk, (∀ y, C.win.l.getLast? = some y → t.hash = y.hash) ∧ e = .returned (.tuple #[t.v, .bool (decide (C.win.l ≠ []))]) ∧ Chg N0 w0 w' := by
  have hp := Hp.start (S := N0) w0
  have us := Tryz.underlying26
  have hB : ∀ b, N0 b → w0.heap.size ≤ b := fun _ hh => hh.elim
  by_cases h0 : C.win.l = []
  · have hl : C.win.l.length = 0 := by rw [h0]; rfl
    rw [show decide (C.win.l ≠ []) = false by simp [h0]]
    refine calls_x (args := [_]) tabOk Tryz.func182 Tryz.ntmps182 Tryz.results182 rfl (Nat.le_of_ble_eq_true rfl) ?_
    ((conv => whnf); repeat' ((first | ((with_reducible refine br_id ?_); first | (with_reducible refine br_f ?_) | ((with_reducible refine br_eq (fun hx => ?_) (fun hx => ?_)) <;> (try (exfalso; first | omega | exact absurd hx (by assumption) | exact absurd (by assumption) hx)))) | ((with_reducible refine cn_id ?_); (refine cn rfl ?_)) | ((with_reducible refine ld_id ?_); ((refine ld_of ((h.keep0 hp.chg).cell rfl) ?_))) | ((with_reducible refine ldn_id ?_); (apply lda_hs hp; (focus ((repeat (first | exact Has.here | apply Has.there)); done)); exact rfl)) | ((with_reducible refine al_id ?_); (refine al_cel hp ?_; clear hp; intro bb w hp)) | ((with_reducible refine st_id ?_); (apply sta_hs hp; (focus ((repeat (first | exact Has.here | apply Has.there)); done)); exact rfl; exact rfl; clear hp; intro w hp; (try dsimp only [List.set] at hp))) | ((with_reducible refine gen_id ?_); first | ((refine gen_build (t := 54) (out := (Blk.c ⟨Id.z, Id.z, Sl.nil⟩)) rfl (by kernel_rfl) ?_)) | (apply gen_len; exact rfl; exact rfl; assumption)) | ((with_reducible refine cl_id ?_); ((refine cl_eq ((cnoneW_any (h.keep0 hp.chg))) rfl rfl ?_; rintro e w ⟨rfl, hcc⟩; replace hp := hp.call0 hcc; refine ⟨_, rfl, ?_⟩)))) <;> (conv => whnf)))
    exact ps_of ⟨⟨Id.z, Id.z, Sl.nil⟩, fun y hy => (by rw [h0] at hy; cases hy), rfl, hp.chg⟩
  · have hl : 0 < C.win.l.length := List.length_pos_iff.2 h0
    rw [show decide (C.win.l ≠ []) = true by simp [h0]]
    obtain ⟨n, hn⟩ : ∃ n : Nat, C.win.l.length = n + 1 := ⟨_, (Nat.sub_add_cancel hl).symm⟩
    have hn2 : ((C.win.l.length : Int) - 1) = (n : Nat) := by omega
    have hn3 : ((C.win.l.length : Int) - 1).toNat = n := by omega
    have hlt : n < C.win.l.length := by omega
    have hmax : n ≤ 100 := by have := h.len; omega
    obtain ⟨b1, o1, y, hA, hb1, hrow, hxx⟩ := h.win.row.has hlt
    have hlast : C.win.l.getLast? = some y := by rw [List.getLast?_eq_getElem?, hn]; exact hxx
    have hym := List.mem_of_getElem? hxx
    have hcp := fun {w : World} (hc : Chg N0 w0 w) => copy_any ((h.keep0 hc).win.tx y hym) (by have := h.tx y hym; omega)
    refine calls_x (args := [_]) tabOk Tryz.func182 Tryz.ntmps182 Tryz.results182 rfl (Nat.le_of_ble_eq_true rfl) ?_
    ((conv => whnf); repeat' ((first | ((with_reducible refine br_id ?_); first | (with_reducible refine br_f ?_) | ((with_reducible refine br_eq (fun hx => ?_) (fun hx => ?_)) <;> (try (exfalso; first | omega | exact absurd hx (by assumption) | exact absurd (by assumption) hx)))) | ((with_reducible refine ld_id ?_); ((refine ld_of ((h.keep0 hp.chg).cell rfl) ?_))) | ((with_reducible refine al_id ?_); (refine al_cel hp ?_; clear hp; intro bb w hp)) | ((with_reducible refine gen_id ?_); (apply gen_len; exact rfl; exact rfl; assumption)) | ((with_reducible refine cl_id ?_); ((refine cl_eq ((cnoneW_any (h.keep0 hp.chg))) rfl rfl ?_; rintro e w ⟨rfl, hcc⟩; replace hp := hp.call0 hcc; refine ⟨_, rfl, ?_⟩)))) <;> (conv => whnf)))
    refine dr_autos [] 1000 tabOk (by kernel_rfl) (by decide +kernel) ?_
    replace hp := hp.drew
    ((conv => whnf); repeat' ((first | ((with_reducible refine ar_id ?_); (refine ar_i64 (by omega) ?_)) | ((with_reducible refine cn_id ?_); first | (refine cn rfl ?_) | (refine cn (by assumption) ?_)) | ((with_reducible refine ld_id ?_); ((refine ld_of ((h.keep0 hp.chg).cell rfl) ?_))) | ((with_reducible refine ldn_id ?_); first | ((refine ldn_rowx hp hB hb1 hrow n (by rw [hn3]; rfl) hxx rfl ?_)) | (apply lda_hs hp; (focus ((repeat (first | exact Has.here | apply Has.there)); done)); exact rfl)) | ((with_reducible refine st_id ?_); (apply sta_hs hp; (focus ((repeat (first | exact Has.here | apply Has.there)); done)); exact rfl; exact rfl; clear hp; intro w hp; (try dsimp only [List.set] at hp))) | ((with_reducible refine cl_id ?_); ((refine cl_eq (hcp hp.chg) rfl rfl ?_; rintro e w ⟨s, hs, rfl, hmd⟩; replace hp := hp.call0 hmd.chg; replace hmd := hmd.chg; refine ⟨_, rfl, ?_⟩))) | ((with_reducible refine rd_id ?_); first | ((refine rd_ixs rfl rfl hA rfl rfl (by omega) ?_)) | (apply rd_len; exact rfl; exact rfl; assumption))) <;> (conv => whnf)))
    exact ps_val (v' := .tuple #[Blk.v { y with tx := s }, .bool true]) rfl ⟨{ y with tx := s }, fun z hz => (by rw [hlast] at hz; cases hz; rfl), rfl, hp.chg⟩
theorem cfindW_any (h : ChW w0 b C) (x : Id) : Calls Tryz.prog 183 #[ptr b, x.v] w0 fun e w' => ∃ m, e = .returned (.tuple #[.int .u32 m, .bool (decide (x ∈ C.win.l.map (·.hash)))]) ∧ Chg N0 w0 w' := by
  have hp := Hp.start (S := N0) w0
  have us := Tryz.underlying26
  have hB : ∀ b, N0 b → w0.heap.size ≤ b := fun _ hh => hh.elim
  have hln := h.len
  have hd := h.dep
  refine calls_x (args := [_, _]) tabOk Tryz.func183 Tryz.ntmps183 Tryz.results183 rfl (Nat.le_of_ble_eq_true rfl) ?_
  ((conv => whnf); repeat' ((first | ((with_reducible refine br_id ?_); (with_reducible refine br_f ?_)) | ((with_reducible refine ld_id ?_); ((refine ld_of ((h.keep0 hp.chg).cell rfl) ?_))) | ((with_reducible refine al_id ?_); (refine al_cel hp ?_; clear hp; intro bb w hp)) | ((with_reducible refine gen_id ?_); (apply gen_len; exact rfl; exact rfl; assumption)) | ((with_reducible refine cl_id ?_); ((refine cl_eq ((cnoneW_any (h.keep0 hp.chg))) rfl rfl ?_; rintro e w ⟨rfl, hcc⟩; replace hp := hp.call0 hcc; refine ⟨_, rfl, ?_⟩)))) <;> (conv => whnf)))
  obtain ⟨b3, hb3⟩ : ∃ x : Nat, x = bb := ⟨_, rfl⟩
  subst hb3
  refine lp_inv (α := Nat) (fun i => [(0, ptr b), (3, ptr b3), (13, C.win.v), (14, i64 C.win.l.length), (15, i64 i)]) (fun i w => i ≤ C.win.l.length ∧ x ∉ (C.win.l.take i).map (·.hash) ∧ Hp N0 w0 w [cel b3 44 x.c.toArray]) (fun i => C.win.l.length - i) 0 (by (repeat' (first | exact trivial | (refine ⟨rfl, ?_⟩)))) ⟨by show 0 ≤ _; omega, by simp, hp⟩ ?_
  clear hp
  rintro i e0 w ⟨hi, hno, hp⟩
  dsimp only at hi hno hp ⊢
  rcases Nat.lt_or_ge i C.win.l.length with hlt | hge
  · obtain ⟨b1, o1, y, hA, hb1, hrow, hyy⟩ := h.win.row.has hlt
    by_cases he : y.hash = x
    · have hq : EqIs Tryz.prog 44 y.hash.v x.v true := by have := eq_id y.hash x; rwa [decide_eq_true he] at this
      have hn1 : (if BinOp.eql = BinOp.eql then true else !true) = true := rfl
      ((conv => whnf); repeat' ((first | ((with_reducible refine br_id ?_); first | ((with_reducible refine br_1 hn1 ?_)) | ((with_reducible refine br_dec (fun hx => ?_) (fun hx => ?_)) <;> (try (exfalso; first | omega | exact absurd hx (by assumption) | exact absurd (by assumption) hx)))) | ((with_reducible refine cn_id ?_); (refine cn rfl ?_)) | ((with_reducible refine ldn_id ?_); first | ((refine ldn_rowx hp hB (by assumption) (by assumption) _ rfl (by assumption) rfl ?_)) | (apply lda_hs hp; (focus ((repeat (first | exact Has.here | apply Has.there)); done)); exact rfl) | (apply ldn_hs hp; (focus ((repeat (first | exact Has.here | apply Has.there)); done)); exact rfl; exact rfl)) | ((with_reducible refine al_id ?_); (refine al_cel hp ?_; clear hp; intro bb w hp)) | ((with_reducible refine st_id ?_); (apply sta_hs hp; (focus ((repeat (first | exact Has.here | apply Has.there)); done)); exact rfl; exact rfl; clear hp; intro w hp; (try dsimp only [List.set] at hp))) | ((with_reducible refine gen_id ?_); first | ((refine gen_ixs rfl rfl (by assumption) rfl rfl (by omega) ?_)) | ((refine gen_eqa rfl rfl rfl hq (by kernel_rfl) (.inl rfl) ?_)))) <;> (conv => whnf)))
      refine cl_eq (catW_any (h.keep0 hp.chg) hlt) rfl rfl ?_
      rintro e w ⟨m, rfl, hcc⟩
      replace hp := hp.call0 hcc
      refine ⟨_, rfl, ?_⟩
      ((conv => whnf); repeat' ((first | ((with_reducible refine br_id ?_); first | (with_reducible refine br_t ?_) | (with_reducible refine br_f ?_) | (with_reducible refine br_not ?_) | ((with_reducible refine br_dec (fun hx => ?_) (fun hx => ?_)) <;> (try (exfalso; first | omega | exact absurd hx (by assumption) | exact absurd (by assumption) hx))) | ((with_reducible refine br_eq (fun hx => ?_) (fun hx => ?_)) <;> (try (exfalso; first | omega | exact absurd hx (by assumption) | exact absurd (by assumption) hx))) | ((with_reducible refine br_ne (fun hx => ?_) (fun hx => ?_)) <;> (try (exfalso; first | omega | exact absurd hx (by assumption) | exact absurd (by assumption) hx))) | ((with_reducible refine br_s (fun hx => ?_) (fun hx => ?_)) <;> (try (exfalso; first | omega | exact absurd hx (by assumption) | exact absurd (by assumption) hx)))) | ((with_reducible refine ar_id ?_); first | (refine ar_i64 (by omega) ?_) | (refine ar_u32 (by omega) ?_) | (refine ar_u64 (by omega) ?_) | (refine ar_u8 (by omega) ?_)) | ((with_reducible refine cn_id ?_); first | (refine cn rfl ?_) | (refine cn (by assumption) ?_) | (refine cn (by omega) ?_) | (refine cn (Chg.refl _ _) ?_)) | ((with_reducible refine ld_id ?_); first | (apply ld_hs hp; (focus ((repeat (first | exact Has.here | apply Has.there)); done)); exact rfl) | (refine ld_of (by assumption) ?_)) | ((with_reducible refine ldn_id ?_); first | (apply lda_hs hp; (focus ((repeat (first | exact Has.here | apply Has.there)); done)); exact rfl) | (apply ldn_hs hp; (focus ((repeat (first | exact Has.here | apply Has.there)); done)); exact rfl; exact rfl)) | ((with_reducible refine al_id ?_); (refine al_cel hp ?_; clear hp; intro bb w hp)) | ((with_reducible refine st_id ?_); first | (apply sta_hs hp; (focus ((repeat (first | exact Has.here | apply Has.there)); done)); exact rfl; exact rfl; clear hp; intro w hp; (try dsimp only [List.set] at hp)) | (apply st_hs hp; (focus ((repeat (first | exact Has.here | apply Has.there)); done)); exact rfl; exact rfl; clear hp; intro w hp; (try dsimp only [List.set] at hp))) | ((with_reducible refine gen_id ?_); first | (apply gen_build; exact rfl; exact rfl) | (apply gen_len; exact rfl; exact rfl; assumption) | (apply gen_min; exact rfl; exact rfl; exact rfl) | (apply gen_max; exact rfl; exact rfl; exact rfl) | (apply gen_ix; exact rfl; exact rfl; exact rfl; exact rfl; omega) | (apply gen_ixa; exact rfl; exact rfl; exact rfl; exact rfl; omega)) | ((with_reducible refine dr_id ?_); first | (refine dr_auto tabOk (by kernel_rfl) (by decide +kernel) ?_; (try replace hp := hp.drew)) | (refine dr_autog tabOk (by kernel_rfl) (by decide +kernel) ?_; (try replace hp := hp.drew)) | (refine dr_autot tabOk (by kernel_rfl) (by decide +kernel) ?_; (try replace hp := hp.drew))) | ((with_reducible refine fk_id ?_); (refine fk_mk ?_ ?_)) | ((with_reducible refine rd_id ?_); first | (apply rd_len; exact rfl; exact rfl; assumption) | (apply rd_ix; exact rfl; exact rfl; exact rfl; exact rfl; omega))) <;> (conv => whnf)))
      exact ps_val (v' := .tuple #[.int .u32 m, .bool true]) rfl ⟨m, by rw [decide_eq_true]; exact List.mem_map.2 ⟨y, List.mem_of_getElem? hyy, he⟩, hp.chg⟩
    · have hq : EqIs Tryz.prog 44 y.hash.v x.v false := by have := eq_id y.hash x; rwa [decide_eq_false he] at this
      have hn0 : (if BinOp.eql = BinOp.eql then false else !false) = false := rfl
      ((conv => whnf); repeat' ((first | ((with_reducible refine br_id ?_); first | ((with_reducible refine br_0 hn0 ?_)) | ((with_reducible refine br_dec (fun hx => ?_) (fun hx => ?_)) <;> (try (exfalso; first | omega | exact absurd hx (by assumption) | exact absurd (by assumption) hx)))) | ((with_reducible refine ar_id ?_); (refine ar_i64 (by omega) ?_)) | ((with_reducible refine cn_id ?_); (refine cn rfl ?_)) | ((with_reducible refine ldn_id ?_); first | ((refine ldn_rowx hp hB (by assumption) (by assumption) _ rfl (by assumption) rfl ?_)) | (apply lda_hs hp; (focus ((repeat (first | exact Has.here | apply Has.there)); done)); exact rfl) | (apply ldn_hs hp; (focus ((repeat (first | exact Has.here | apply Has.there)); done)); exact rfl; exact rfl)) | ((with_reducible refine al_id ?_); (refine al_cel hp ?_; clear hp; intro bb w hp)) | ((with_reducible refine st_id ?_); (apply sta_hs hp; (focus ((repeat (first | exact Has.here | apply Has.there)); done)); exact rfl; exact rfl; clear hp; intro w hp; (try dsimp only [List.set] at hp))) | ((with_reducible refine gen_id ?_); first | ((refine gen_ixs rfl rfl (by assumption) rfl rfl (by omega) ?_)) | ((refine gen_eqa rfl rfl rfl hq (by kernel_rfl) (.inl rfl) ?_)))) <;> (conv => whnf)))
      refine lp_next (i + 1) (by show C.win.l.length - (i + 1) < C.win.l.length - i; omega) (by (repeat' (first | exact trivial | (refine ⟨rfl, ?_⟩)))) ⟨by show i + 1 ≤ _; omega, ?_, hp.pick (rs' := [_]) [1] (by decide) rfl⟩
      rw [List.take_add_one, hyy, List.map_append, List.mem_append]
      rintro (hh | hh)
      · exact hno hh
      · simp at hh
        exact he hh.symm
  · rw [List.take_of_length_le hge] at hno
    ((conv => whnf); repeat' (((with_reducible refine br_id ?_); ((with_reducible refine br_dec (fun hx => ?_) (fun hx => ?_)) <;> (try (exfalso; first | omega | exact absurd hx (by assumption) | exact absurd (by assumption) hx)))) <;> (conv => whnf)))
    exact ps_val (v' := .tuple #[.int .u32 0, .bool false]) rfl ⟨0, by rw [decide_eq_false hno], hp.chg⟩
/-- may a block come behind a window -/
def lastOk (x : Blk) : Option Blk → Bool
  | some y => decide (x.parent = y.hash)
  | none => true
def nextOk (l : List Blk) (x : Blk) : Bool := rightB x && (lastOk x l.getLast? && decide (x.hash ∉ l.map (·.hash)))
theorem cmayW_any (h : ChW w0 b C) (h0 : C.ht = 0) {x : Blk} {D : Nat} (hx : SlAt D w0 Id.c 32 x.tx) : Calls Tryz.prog 105 #[ptr b, x.v] w0 fun e w' => ∃ E : Int, (decide (E = 0) = nextOk C.win.l x) ∧ e = .returned (i64 E) ∧ Chg N0 w0 w' := by
  have hp := Hp.start (S := N0) w0
  have hD : ∀ b, N0 b → D ≤ b := fun _ hh => hh.elim
  have hri := fun {w : World} (hc : Chg N0 w0 w) => blkright_any (hx.keep hc hD)
  obtain ⟨R, hR⟩ : ∃ R, rightB x = R := ⟨_, rfl⟩
  obtain ⟨q0, hq0⟩ : ∃ q, decide (C.win.l ≠ []) = q := ⟨_, rfl⟩
  obtain ⟨q1, hq1⟩ : ∃ q, decide (x.hash ∈ C.win.l.map (·.hash)) = q := ⟨_, rfl⟩
  have hht : (C.ht.toNat : Int) = 0 := by rw [h0]; rfl
  have htp := fun {w : World} (hc : Chg N0 w0 w) => ctipW_any (h.keep0 hc)
  have hfi := fun {w : World} (hc : Chg N0 w0 w) => cfindW_any (h.keep0 hc) x.hash
  have hN : nextOk C.win.l x = (R && (lastOk x C.win.l.getLast? && !q1)) := by
    unfold nextOk
    rw [hR, ← hq1, decide_not]
  rw [hq0] at htp
  rw [hq1] at hfi
  rw [hR] at hri
  rw [hN]
  refine calls_x (args := [_, _]) tabOk Tryz.func105 Tryz.ntmps105 Tryz.results105 rfl (Nat.le_of_ble_eq_true rfl) ?_
  ((conv => whnf); repeat' ((first | ((with_reducible refine br_id ?_); (with_reducible refine br_f ?_)) | ((with_reducible refine al_id ?_); (refine al_cel hp ?_; clear hp; intro bb w hp)) | ((with_reducible refine cl_id ?_); ((refine cl_eq ((cnoneW_any (h.keep0 hp.chg))) rfl rfl ?_; rintro e w ⟨rfl, hcc⟩; replace hp := hp.call0 hcc; refine ⟨_, rfl, ?_⟩)))) <;> (conv => whnf)))
  refine cl_eq (htp hp.chg) rfl rfl ?_
  rintro e w ⟨t, hth, rfl, hcc⟩
  replace hp := hp.call0 hcc
  refine ⟨_, rfl, ?_⟩
  obtain ⟨q2, hq2⟩ : ∃ q, decide (x.parent = t.hash) = q := ⟨_, rfl⟩
  have hch := bchild_any (p := t) (x := x)
  rw [hq2] at hch
  have hM : lastOk x C.win.l.getLast? = (!q0 || q2) := by
    cases hl : C.win.l.getLast? with
    | none =>
      rw [← hq0, List.getLast?_eq_none_iff.1 hl]
      rfl
    | some y =>
      have : C.win.l ≠ [] := by rintro e; rw [e] at hl; cases hl
      rw [← hq0, decide_eq_true this, ← hq2, hth y hl]
      rfl
  rw [hM]
  clear hM hth hN
  ((conv => whnf); repeat' ((first | ((with_reducible refine cn_id ?_); (refine cn rfl ?_)) | ((with_reducible refine ldn_id ?_); (apply ldn_hs hp; (focus ((repeat (first | exact Has.here | apply Has.there)); done)); exact rfl; exact rfl)) | ((with_reducible refine al_id ?_); (refine al_cel hp ?_; clear hp; intro bb w hp)) | ((with_reducible refine st_id ?_); (apply sta_hs hp; (focus ((repeat (first | exact Has.here | apply Has.there)); done)); exact rfl; exact rfl; clear hp; intro w hp; (try dsimp only [List.set] at hp)))) <;> (conv => whnf)))
  refine cl_eq (hfi hp.chg) rfl rfl ?_
  rintro e w ⟨m, rfl, hcc⟩
  replace hp := hp.call0 hcc
  refine ⟨_, rfl, ?_⟩
  ((conv => whnf); repeat' ((first | ((with_reducible refine br_id ?_); first | (with_reducible refine br_t ?_) | (with_reducible refine br_f ?_) | (with_reducible refine br_not ?_) | ((with_reducible refine br_eq (fun hx => ?_) (fun hx => ?_)) <;> (try (exfalso; first | omega | exact absurd hx (by assumption) | exact absurd (by assumption) hx))) | ((with_reducible refine br_s (fun hx => ?_) (fun hx => ?_)) <;> (try (exfalso; first | omega | exact absurd hx (by assumption) | exact absurd (by assumption) hx)))) | ((with_reducible refine ld_id ?_); ((refine ld_of ((h.keep0 hp.chg).cell rfl) ?_))) | ((with_reducible refine ldn_id ?_); (apply lda_hs hp; (focus ((repeat (first | exact Has.here | apply Has.there)); done)); exact rfl)) | ((with_reducible refine cl_id ?_); first | ((refine cl_eq ((hri hp.chg)) rfl rfl ?_; rintro e w ⟨rfl, hcc⟩; replace hp := hp.call0 hcc; refine ⟨_, rfl, ?_⟩)) | ((refine cl_eq ((hch _)) rfl rfl ?_; rintro e w ⟨rfl, hcc⟩; replace hp := hp.call0 hcc; refine ⟨_, rfl, ?_⟩)))) <;> (conv => whnf)))
  all_goals (try simp only [Bool.not_eq_true, Bool.not_eq_false'] at *)
  all_goals first
    | exact ps_val (v' := i64 0) rfl ⟨0, by simp_all, rfl, hp.chg⟩
    | exact ps_val (v' := i64 4) rfl ⟨4, by simp_all, rfl, hp.chg⟩
    | exact ps_val (v' := i64 19) rfl ⟨19, by simp_all, rfl, hp.chg⟩
    | exact ps_val (v' := i64 16) rfl ⟨16, by simp_all, rfl, hp.chg⟩
end
end Go.Proofs.YteabebmlclgakaaGreat
