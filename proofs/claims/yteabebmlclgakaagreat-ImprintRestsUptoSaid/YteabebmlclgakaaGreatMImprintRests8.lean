/- MImprintRests8: Sess, OpS, HintE, Sta. -/
import Derived.Test.YteabebmlclgakaaGreatMImprintRests7
/- Session: contracts of the package session. No condition but that a table stands behind the pointer. -/
namespace Go.Proofs.YteabebmlclgakaaGreat
set_option linter.unusedSimpArgs false
set_option linter.unusedVariables false
open Go.RowKit
set_option maxRecDepth 100000
set_option maxHeartbeats 2000000
theorem u32K : KEnc Tryz.prog 24 u32 := u32_enc Tryz.underlying24
structure Sess where
  id : UInt32
  quota : UInt32
  used : UInt32
  exp : UInt32
  deriving DecidableEq
abbrev Sess.v (s : Sess) : Value := .agg #[u32 s.id, u32 s.quota, u32 s.used, u32 s.exp]
def Sess.z : Sess := ⟨0, 0, 0, 0⟩
abbrev Sess.c (s : Sess) : List Value := [u32 s.id, u32 s.quota, u32 s.used, u32 s.exp]
theorem el_ses : ElT Tryz.prog 27 56 4 16 := elt_of (z := Sess.z.v) Tryz.underlying27 (by kernel_rfl) rfl (by omega)
theorem ses_one {l : List Sess} : ∀ x ∈ l, ∀ u ∈ Sess.c x, u.oneCell' = true := fun x _ u hu => by
  simp only [Sess.c, List.mem_cons, List.not_mem_nil, or_false] at hu
  rcases hu with rfl | rfl | rfl | rfl <;> rfl
/-- a table behind a pointer: room, the map's block, the entries -/
abbrev tabRs (b m : Nat) (room : Int) (l : List (UInt32 × Sess)) : List Res := [cel b 171 #[.int .i64 room, .map (some m)], mapR u32 Sess.v m l]
def tabR (b m : Nat) (room : Int) (l : List (UInt32 × Sess)) : Res := star (tabRs b m room l)
theorem none_no {w : World} {b m : Nat} {room : Int} (hc : w.heap[b]? = some (.cells #[.int .i64 room, .map (some m)] 171)) :
    Calls Tryz.prog 134 #[ptr b] w fun e w' => e = .returned (.bool false) ∧ Chg N0 w w' := by
  have c1 : w.cell? ⟨b, 1, none⟩ = some (.map (some m)) := cell_of_heap hc rfl
  refine calls_x (args := [_]) tabOk Tryz.func134 Tryz.ntmps134 Tryz.results134 rfl (Nat.le_of_ble_eq_true rfl) ?_
  ((conv => whnf); repeat' ((first | ((with_reducible refine br_id ?_); (with_reducible refine br_f ?_)) | ((with_reducible refine ld_id ?_); (refine ld_of (by assumption) ?_))) <;> (conv => whnf)))
  refine ps_of ?_
  exact ⟨rfl, Chg.refl _ _⟩
theorem sesnew_any (w0 : World) (n : Int) :
    Calls Tryz.prog 63 #[.int .i64 n] w0 fun e w' => ∃ b m, e = .returned (ptr b) ∧ Made (tabR b m (max n 0) []) w0 w' := by
  have hp := Hp.start (S := N0) w0
  refine calls_x (args := [_]) tabOk Tryz.func63 Tryz.ntmps63 Tryz.results63 rfl (Nat.le_of_ble_eq_true rfl) ?_
  ((conv => whnf); repeat' ((first | ((with_reducible refine al_id ?_); (refine al_cel hp ?_; clear hp; intro bb w hp)) | ((with_reducible refine gen_id ?_); first | ((refine gen_mmake rfl u32 Sess.v hp ?_); clear hp; intro bb w hp) | (apply gen_build; exact rfl; exact rfl) | (apply gen_max; exact rfl; exact rfl; exact rfl))) <;> (conv => whnf)))
  exact ps_of ⟨_, _, rfl, hp.made (.refl _)⟩
def grantE (l : List (UInt32 × Sess)) (room : Int) (s : Sess) : Nat :=
  if s.quota.toNat < 1 ∨ 64 < s.quota.toNat ∨ s.quota.toNat < s.used.toNat then 1 else if (l.lookup s.id).isSome then 6 else if room ≤ l.length then 16 else 0
def grantL (l : List (UInt32 × Sess)) (room : Int) (s : Sess) : List (UInt32 × Sess) := if grantE l room s = 0 then mput l s.id s else l
theorem grant_any {w0 : World} {b m : Nat} {room : Int} {l : List (UInt32 × Sess)} (h : (tabR b m room l).ok w0) (s : Sess) :
    Calls Tryz.prog 117 #[ptr b, s.v] w0 fun e w' => e = .returned (errno (grantE l room s)) ∧ Mut (tabR b m room l) (tabR b m room (grantL l room s)) w0 w' := by
  have hp := Hp.open h
  refine calls_x (args := [_, _]) tabOk Tryz.func117 Tryz.ntmps117 Tryz.results117 rfl (Nat.le_of_ble_eq_true rfl) ?_
  ((conv => whnf); repeat' (((with_reducible refine al_id ?_); (refine al_cel hp ?_; clear hp; intro bb w hp)) <;> (conv => whnf)))
  refine cl_of (none_no (hp.cel_get (j := 1) rfl)) ?_
  rintro e w ⟨rfl, hc⟩
  replace hp := hp.call0 hc
  refine ⟨_, rfl, ?_⟩
  ((conv => whnf); repeat' ((first | ((with_reducible refine br_id ?_); first | (with_reducible refine br_t ?_) | (with_reducible refine br_f ?_) | ((with_reducible refine br_dec (fun hx => ?_) (fun hx => ?_)) <;> (try (exfalso; first | omega | exact absurd hx (by assumption) | exact absurd (by assumption) hx))) | ((with_reducible refine br_s (fun hx => ?_) (fun hx => ?_)) <;> (try (exfalso; first | omega | exact absurd hx (by assumption) | exact absurd (by assumption) hx)))) | ((with_reducible refine cn_id ?_); (refine cn rfl ?_)) | ((with_reducible refine ld_id ?_); (apply ld_hs hp; (focus ((repeat (first | exact Has.here | apply Has.there)); done)); exact rfl)) | ((with_reducible refine ldn_id ?_); (apply lda_hs hp; (focus ((repeat (first | exact Has.here | apply Has.there)); done)); exact rfl)) | ((with_reducible refine al_id ?_); (refine al_cel hp ?_; clear hp; intro bb w hp)) | ((with_reducible refine st_id ?_); (apply sta_hs hp; (focus ((repeat (first | exact Has.here | apply Has.there)); done)); exact rfl; exact rfl; clear hp; intro w hp; (try dsimp only [List.set] at hp))) | ((with_reducible refine gen_id ?_); ((refine gen_put rfl hp 3 rfl rfl u32K Tryz.underlying169 (s.id) rfl (s) rfl ?_); clear hp; intro w hp)) | ((with_reducible refine dr_id ?_); (refine dr_auto tabOk (by kernel_rfl) (by decide +kernel) ?_; (try replace hp := hp.drew))) | ((with_reducible refine rd_id ?_); first | ((refine rd_look rfl hp 2 rfl rfl u32K Tryz.underlying169 (z := Sess.z) rfl _ rfl ?_)) | ((refine rd_mlen rfl hp 3 rfl rfl Tryz.underlying169 ?_)))) <;> (conv => whnf)))
  all_goals first | (refine ps_val (v' := errno 1) rfl ?_; have hg : grantE l room s = 1 := (by unfold grantE; (repeat (first | rw [if_pos (by first | assumption | omega)] | rw [if_neg (by first | assumption | omega | (intro hh; simp_all))]))); rw [hg]; unfold grantL; rw [hg]; exact ⟨rfl, hp.tail.tail.shut (.refl _)⟩) | (refine ps_val (v' := errno 6) rfl ?_; have hg : grantE l room s = 6 := (by unfold grantE; (repeat (first | rw [if_pos (by first | assumption | omega)] | rw [if_neg (by first | assumption | omega | (intro hh; simp_all))]))); rw [hg]; unfold grantL; rw [hg]; exact ⟨rfl, hp.tail.tail.shut (.refl _)⟩) | (refine ps_val (v' := errno 16) rfl ?_; have hg : grantE l room s = 16 := (by unfold grantE; (repeat (first | rw [if_pos (by first | assumption | omega)] | rw [if_neg (by first | assumption | omega | (intro hh; simp_all))]))); rw [hg]; unfold grantL; rw [hg]; exact ⟨rfl, hp.tail.tail.shut (.refl _)⟩) | (refine ps_val (v' := errno 0) rfl ?_; have hg : grantE l room s = 0 := (by unfold grantE; (repeat (first | rw [if_pos (by first | assumption | omega)] | rw [if_neg (by first | assumption | omega | (intro hh; simp_all))]))); rw [hg]; unfold grantL; rw [hg]; exact ⟨rfl, hp.tail.tail.shut (.refl _)⟩)
def mayE (l : List (UInt32 × Sess)) (id seq height : UInt32) : Nat :=
  if (l.lookup id).isSome = false then 12 else if ((l.lookup id).getD Sess.z).exp.toNat ≤ height.toNat then 13 else if seq.toNat ≠ ((l.lookup id).getD Sess.z).used.toNat then 14
  else if ((l.lookup id).getD Sess.z).quota.toNat ≤ ((l.lookup id).getD Sess.z).used.toNat then 15 else 0
def useL (l : List (UInt32 × Sess)) (id seq height : UInt32) : List (UInt32 × Sess) :=
  if mayE l id seq height = 0 then mput l id { (l.lookup id).getD Sess.z with used := ((l.lookup id).getD Sess.z).used + 1 } else l
theorem get_any {w0 : World} {b m : Nat} {room : Int} {l : List (UInt32 × Sess)} (h : (tabR b m room l).ok w0) (id : UInt32) :
    Calls Tryz.prog 118 #[ptr b, u32 id] w0 fun e w' => e = .returned (.tuple #[((l.lookup id).getD Sess.z).v, .bool (l.lookup id).isSome]) ∧ Mut (tabR b m room l) (tabR b m room l) w0 w' := by
  have hp := Hp.open h
  refine calls_x (args := [_, _]) tabOk Tryz.func118 Tryz.ntmps118 Tryz.results118 rfl (Nat.le_of_ble_eq_true rfl) ?_
  ((conv => whnf); repeat' (((with_reducible refine al_id ?_); (refine al_cel hp ?_; clear hp; intro bb w hp)) <;> (conv => whnf)))
  refine cl_of (none_no (hp.cel_get (j := 1) rfl)) ?_
  rintro e w ⟨rfl, hc⟩
  replace hp := hp.call0 hc
  refine ⟨_, rfl, ?_⟩
  ((conv => whnf); repeat' ((first | ((with_reducible refine br_id ?_); (with_reducible refine br_f ?_)) | ((with_reducible refine cn_id ?_); (refine cn rfl ?_)) | ((with_reducible refine ld_id ?_); (apply ld_hs hp; (focus ((repeat (first | exact Has.here | apply Has.there)); done)); exact rfl)) | ((with_reducible refine ldn_id ?_); (apply lda_hs hp; (focus ((repeat (first | exact Has.here | apply Has.there)); done)); exact rfl)) | ((with_reducible refine al_id ?_); (refine al_cel hp ?_; clear hp; intro bb w hp)) | ((with_reducible refine st_id ?_); (apply sta_hs hp; (focus ((repeat (first | exact Has.here | apply Has.there)); done)); exact rfl; exact rfl; clear hp; intro w hp; (try dsimp only [List.set] at hp))) | ((with_reducible refine gen_id ?_); ((refine gen_look rfl hp 2 rfl rfl u32K Tryz.underlying169 (z := Sess.z) rfl _ rfl ?_)))) <;> (conv => whnf)))
  refine ps_val (v' := .tuple #[((l.lookup id).getD Sess.z).v, .bool (l.lookup id).isSome]) rfl ?_
  exact ⟨rfl, hp.tail.tail.shut (.refl _)⟩
end Go.Proofs.YteabebmlclgakaaGreat
/- OpS: the calls of the laws of sessions that came in, opened. No condition. -/
namespace Go.Proofs.YteabebmlclgakaaGreat
set_option linter.unusedSimpArgs false
set_option linter.unusedVariables false
open Go.RowKit
set_option maxRecDepth 100000
set_option maxHeartbeats 2000000
structure OpS where
  kind : Int
  s : Sess
  seq : UInt32
  height : UInt32
abbrev OpS.c (o : OpS) : List Value := [i64 o.kind, u32 o.s.id, u32 o.s.quota, u32 o.s.used, u32 o.s.exp, u32 o.seq, u32 o.height]
theorem rdb_sess {H : Type} {enc : TypeId × Value → H} {w : World} {cs : List Value} (h : Rdb enc Tryz.prog w 56 cs) : ∃ x : Sess, cs = [u32 x.id, u32 x.quota, u32 x.used, u32 x.exp] := by
  obtain ⟨hl, hf⟩ := rdb_struct (fs := Tryz.prog.fieldsOf 56) (by kernel_rfl) h
  obtain ⟨a, ha⟩ := rdb_u32 (cs := (cs.drop 0).take 1) (hf 0 _ rfl)
  obtain ⟨b, hb⟩ := rdb_u32 (cs := (cs.drop 1).take 1) (hf 1 _ rfl)
  obtain ⟨c, hc⟩ := rdb_u32 (cs := (cs.drop 2).take 1) (hf 2 _ rfl)
  obtain ⟨d, hd⟩ := rdb_u32 (cs := (cs.drop 3).take 1) (hf 3 _ rfl)
  have h3 : cs.drop 4 = [] := List.drop_eq_nil_of_le (by rw [hl]; exact Nat.le_of_eq (by kernel_rfl))
  have h1 := drop_split cs 0 1
  rw [drop_split cs (0 + 1) 1, drop_split cs (0 + 1 + 1) 1, drop_split cs (0 + 1 + 1 + 1) 1, ha, hb, hc, hd, h3, List.drop_zero] at h1
  exact ⟨⟨a, b, c, d⟩, h1⟩
end Go.Proofs.YteabebmlclgakaaGreat
/- HintE: a hint's cells. No condition. -/
namespace Go.Proofs.YteabebmlclgakaaGreat
set_option linter.unusedSimpArgs false
set_option linter.unusedVariables false
open Go.RowKit
theorem Hint.cells (x : Hint) : (x.toList.map Extern.Stop.cell).toArray = x.c.toArray := by
  have h : x.toList = (List.finRange 16).map fun i => x[i] := by
    apply List.ext_getElem
    · simp
    · intro i h1 h2; simp
  rw [h]
  rfl
theorem Hint.maps (x : Hint) : x.toList.map u8 = x.c := by
  have := congrArg Array.toList (Hint.cells x)
  rw [List.toList_toArray, List.toList_toArray] at this
  exact this
theorem hint_flat (X : Hint) : ((X.c.toArray).toList.drop 0).take (X.toList.length * 1) = X.toList.flatMap u8L := by
  rw [List.toList_toArray, List.drop_zero, ← Hint.maps, List.take_of_length_le (by rw [List.length_map]; omega), List.map_eq_flatMap]
theorem cel_out {S : Nat → Prop} {w0 w : World} {rs : List Res} {r : Res} {b : Nat} {t : TypeId} {cs : Array Value} (h : Hp S w0 w (cel b t cs :: rs)) (hr : r ∈ rs) : ¬ r.dom b := (List.pairwise_cons.1 h.sep).1 r hr b (cel_dom.2 rfl)
theorem id_flat (X : Id) : ((X.c.toArray).toList.drop 0).take (X.toList.length * 1) = X.toList.flatMap u8L := by
  have h1 : X.toList.map u8 = X.c := by
    have := congrArg Array.toList (Id.cells X)
    rw [List.toList_toArray, List.toList_toArray] at this
    exact this
  have h2 : X.toList.flatMap u8L = X.toList.map u8 := by rw [List.map_eq_flatMap]
  rw [h2, List.toList_toArray, List.drop_zero, ← h1, List.take_of_length_le (by rw [List.length_map]; omega)]
end Go.Proofs.YteabebmlclgakaaGreat
/- Sta: states of a tower as cells; states that came in; of a bounded bulk. No condition. -/
namespace Go.Proofs.YteabebmlclgakaaGreat
set_option linter.unusedSimpArgs false
set_option linter.unusedVariables false
open Go.RowKit
set_option maxRecDepth 100000
set_option maxHeartbeats 2000000
structure Cfg where
  dep : Int
  stp : Int
  kep : Int
  ses : Int
  cap : Int
  com : Int
  deriving DecidableEq
abbrev Cfg.c (x : Cfg) : List Value := [i64 x.dep, i64 x.stp, i64 x.kep, i64 x.ses, i64 x.cap, i64 x.com]
abbrev Cfg.v (x : Cfg) : Value := .agg #[i64 x.dep, i64 x.stp, i64 x.kep, i64 x.ses, i64 x.cap, i64 x.com]
structure Sta where
  cfg : Cfg
  ht : UInt32
  halt : Int
  next : UInt32
  win : Sl Blk
  ses : Sl Sess
  blobs : Sl Blob
  jobs : Sl Job
abbrev Sta.c (x : Sta) : List Value := (i64 x.cfg.dep :: i64 x.cfg.stp :: i64 x.cfg.kep :: i64 x.cfg.ses :: i64 x.cfg.cap :: i64 x.cfg.com :: u32 x.ht :: i64 x.halt :: u32 x.next :: x.win.v :: x.ses.v :: x.blobs.v :: x.jobs.v :: [])
abbrev Sta.v (x : Sta) : Value := .agg (List.toArray (i64 x.cfg.dep :: i64 x.cfg.stp :: i64 x.cfg.kep :: i64 x.cfg.ses :: i64 x.cfg.cap :: i64 x.cfg.com :: u32 x.ht :: i64 x.halt :: u32 x.next :: x.win.v :: x.ses.v :: x.blobs.v :: x.jobs.v :: []))
/-- a state's memory -/
structure StaAt (B : Nat) (w : World) (x : Sta) : Prop where
  win : SlAt B w Blk.c 65 x.win
  tx : ∀ b ∈ x.win.l, SlAt B w Id.c 32 b.tx
  ses : SlAt B w Sess.c 4 x.ses
  blobs : BlobsAt B w x.blobs
  jobs : SlAt B w Job.c 38 x.jobs
  pay : ∀ j ∈ x.jobs.l, PayAt B w j.pay
theorem StaAt.keep {S : Nat → Prop} {B : Nat} {w w' : World} {x : Sta} (h : StaAt B w x) (hc : Chg S w w') (hB : ∀ b, S b → B ≤ b) : StaAt B w' x :=
  ⟨h.win.keep hc hB, fun b hb => (h.tx b hb).keep hc hB, h.ses.keep hc hB, h.blobs.keep hc hB, h.jobs.keep hc hB, fun j hj => (h.pay j hj).keep hc hB⟩
theorem PayAt.more {B B' : Nat} {w : World} {p : Payload} (h : PayAt B w p) (hB : B ≤ B') : PayAt B' w p := ⟨h.row.more hB, fun t ht => (h.tx t ht).more hB⟩
theorem StaAt.more {B B' : Nat} {w : World} {x : Sta} (h : StaAt B w x) (hB : B ≤ B') : StaAt B' w x :=
  ⟨h.win.more hB, fun b hb => (h.tx b hb).more hB, h.ses.more hB, h.blobs.more hB, h.jobs.more hB, fun j hj => (h.pay j hj).more hB⟩
/-- of bounded bulk -/
structure StaB (N : Nat) (x : Sta) : Prop where
  win : x.win.l.length ≤ N
  tx : ∀ b ∈ x.win.l, b.tx.l.length ≤ N
  ses : x.ses.l.length ≤ N
  blobs : x.blobs.l.length ≤ N
  data : ∀ b ∈ x.blobs.l, b.data.l.length ≤ N
  jobs : x.jobs.l.length ≤ N
section
variable {H : Type} {enc : TypeId × Value → H} {w : World} {cs : List Value} {N : Nat}
theorem rdb_key {cs : List Value} (h : Rdb enc Tryz.prog w 42 cs) : ∃ x : Key, cs = x.c := by
  obtain ⟨hl, hf⟩ := rdb_struct (fs := Tryz.prog.fieldsOf 42) (by kernel_rfl) h
  obtain ⟨a, ha⟩ := rdb_u32 (cs := (cs.drop 0).take 1) (hf 0 _ rfl)
  obtain ⟨b, hb⟩ := rdb_u32 (cs := (cs.drop 1).take 1) (hf 1 _ rfl)
  have h1 := drop_split cs 0 1
  have h2 := drop_split cs 1 1
  rw [ha, h2, hb, List.drop_zero] at h1
  have h3 : cs.drop 2 = [] := List.drop_eq_nil_of_le (by rw [hl]; exact Nat.le_of_eq (by kernel_rfl))
  rw [h3] at h1
  exact ⟨⟨a, b⟩, h1⟩
theorem rdb_hintS (h : Rdb enc Tryz.prog w 37 cs) : ∃ x : Hint, cs = x.c := by
  obtain ⟨l, hl, rfl⟩ := rdb_u8s (n := 16) (by kernel_rfl) (by kernel_rfl) h
  refine ⟨⟨l.toArray, by simpa using hl⟩, ?_⟩
  have := congrArg Array.toList (Hint.cells ⟨l.toArray, by simpa using hl⟩)
  rw [List.toList_toArray, List.toList_toArray] at this
  exact this
theorem rdb_job (h : Rdb enc Tryz.prog w 49 cs) : ∃ x : Job, cs = x.c ∧ PayAt w.heap.size w x.pay ∧ -9223372036854775808 ≤ x.live ∧ x.live ≤ 9223372036854775807 := by
  obtain ⟨hl, hf⟩ := rdb_struct (fs := Tryz.prog.fieldsOf 49) (by kernel_rfl) h
  obtain ⟨k, hk⟩ := rdb_key (cs := (cs.drop 0).take 2) (hf 0 _ rfl)
  obtain ⟨i, hi⟩ := rdb_id (cs := (cs.drop 2).take 32) (hf 1 _ rfl)
  obtain ⟨a, ha⟩ := rdb_u32 (cs := (cs.drop 34).take 1) (hf 2 _ rfl)
  obtain ⟨b, hb⟩ := rdb_u32 (cs := (cs.drop 35).take 1) (hf 3 _ rfl)
  obtain ⟨l, hlv, hw⟩ := rdb_i64 (cs := (cs.drop 36).take 1) (hf 4 _ rfl)
  obtain ⟨p, hp, hat⟩ := rdb_pay (cs := (cs.drop 37).take 1) (hf 5 _ rfl)
  have h3 : cs.drop 38 = [] := List.drop_eq_nil_of_le (by rw [hl]; exact Nat.le_of_eq (by kernel_rfl))
  have h1 := drop_split cs 0 2
  rw [drop_split cs (0 + 2) 32, drop_split cs (0 + 2 + 32) 1, drop_split cs (0 + 2 + 32 + 1) 1, drop_split cs (0 + 2 + 32 + 1 + 1) 1, drop_split cs (0 + 2 + 32 + 1 + 1 + 1) 1, hk, hi, ha, hb, hlv, hp, h3, List.drop_zero] at h1
  exact ⟨⟨k, i, a, b, l, p⟩, h1, hat, hw⟩
theorem rdbU_blob (h : RdbU N enc Tryz.prog w 40 cs) : ∃ x : Blob, cs = x.c ∧ SlAt w.heap.size w u8L 1 x.data ∧ x.data.l.length ≤ N := by
  obtain ⟨hl, hf⟩ := rdbU_struct (fs := Tryz.prog.fieldsOf 40) (by kernel_rfl) h
  obtain ⟨a, ha⟩ := rdb_u32 (cs := (cs.drop 0).take 1) (hf 0 _ rfl).rdb
  obtain ⟨b, hb⟩ := rdb_u32 (cs := (cs.drop 1).take 1) (hf 1 _ rfl).rdb
  obtain ⟨i, hi⟩ := rdb_hintS (cs := (cs.drop 2).take 16) (hf 2 _ rfl).rdb
  have h9 : RdbU N enc Tryz.prog w 38 ((cs.drop 18).take 1) := hf 3 _ rfl
  obtain ⟨p, hp, hat⟩ := rdb_bytes h9.rdb
  have h3 : cs.drop 19 = [] := List.drop_eq_nil_of_le (by rw [hl]; exact Nat.le_of_eq (by kernel_rfl))
  have h1 := drop_split cs 0 1
  rw [drop_split cs (0 + 1) 1, drop_split cs (0 + 1 + 1) 16, drop_split cs (0 + 1 + 1 + 16) 1, ha, hb, hi, hp, h3, List.drop_zero] at h1
  rw [hp] at h9
  exact ⟨⟨⟨a, b⟩, i, p⟩, h1, hat, rdbU_len Tryz.underlying38 h9⟩
theorem rdbU_blk (h : RdbU N enc Tryz.prog w 54 cs) : ∃ x : Blk, cs = x.c ∧ SlAt w.heap.size w Id.c 32 x.tx ∧ x.tx.l.length ≤ N := by
  obtain ⟨hl, hf⟩ := rdbU_struct (fs := Tryz.prog.fieldsOf 54) (by kernel_rfl) h
  obtain ⟨a, ha⟩ := rdb_id (cs := (cs.drop 0).take 32) (hf 0 _ rfl).rdb
  obtain ⟨b, hb⟩ := rdb_id (cs := (cs.drop 32).take 32) (hf 1 _ rfl).rdb
  have h9 : RdbU N enc Tryz.prog w 52 ((cs.drop 64).take 1) := hf 2 _ rfl
  obtain ⟨s, hs, hat⟩ := rdb_ids h9.rdb
  have h3 : cs.drop 65 = [] := List.drop_eq_nil_of_le (by rw [hl]; exact Nat.le_of_eq (by kernel_rfl))
  have h1 := drop_split cs 0 32
  rw [drop_split cs (0 + 32) 32, drop_split cs (0 + 32 + 32) 1, ha, hb, hs, h3, List.drop_zero] at h1
  rw [hs] at h9
  exact ⟨⟨a, b, s⟩, h1, hat, rdbU_len Tryz.underlying52 h9⟩
theorem rdb_cfg (h : Rdb enc Tryz.prog w 23 cs) : ∃ x : Cfg, cs = x.c ∧ (∀ y ∈ [x.dep, x.stp, x.kep, x.ses, x.cap, x.com], -9223372036854775808 ≤ y ∧ y ≤ 9223372036854775807) := by
  obtain ⟨hl, hf⟩ := rdb_struct (fs := Tryz.prog.fieldsOf 23) (by kernel_rfl) h
  obtain ⟨a, ha, ha'⟩ := rdb_i64 (cs := (cs.drop 0).take 1) (hf 0 _ rfl)
  obtain ⟨b, hb, hb'⟩ := rdb_i64 (cs := (cs.drop 1).take 1) (hf 1 _ rfl)
  obtain ⟨c, hc, hc'⟩ := rdb_i64 (cs := (cs.drop 2).take 1) (hf 2 _ rfl)
  obtain ⟨d, hd, hd'⟩ := rdb_i64 (cs := (cs.drop 3).take 1) (hf 3 _ rfl)
  obtain ⟨e, he, he'⟩ := rdb_i64 (cs := (cs.drop 4).take 1) (hf 4 _ rfl)
  obtain ⟨f, hff, hf'⟩ := rdb_i64 (cs := (cs.drop 5).take 1) (hf 5 _ rfl)
  have h3 : cs.drop 6 = [] := List.drop_eq_nil_of_le (by rw [hl]; exact Nat.le_of_eq (by kernel_rfl))
  have h1 := drop_split cs 0 1
  rw [drop_split cs (0 + 1) 1, drop_split cs (0 + 1 + 1) 1, drop_split cs (0 + 1 + 1 + 1) 1, drop_split cs (0 + 1 + 1 + 1 + 1) 1, drop_split cs (0 + 1 + 1 + 1 + 1 + 1) 1, ha, hb, hc, hd, he, hff, h3, List.drop_zero] at h1
  refine ⟨⟨a, b, c, d, e, f⟩, h1, fun y hy => ?_⟩
  simp only [List.mem_cons, List.not_mem_nil, or_false] at hy
  rcases hy with rfl | rfl | rfl | rfl | rfl | rfl <;> assumption
theorem rdbU_sta (h : RdbU N enc Tryz.prog w 31 cs) : ∃ x : Sta, cs = x.c ∧ StaAt w.heap.size w x ∧ StaB N x ∧ (∀ y ∈ [x.cfg.dep, x.cfg.stp, x.cfg.kep, x.cfg.ses, x.cfg.cap, x.cfg.com, x.halt], -9223372036854775808 ≤ y ∧ y ≤ 9223372036854775807) ∧ ∀ j ∈ x.jobs.l, -9223372036854775808 ≤ j.live ∧ j.live ≤ 9223372036854775807 := by
  obtain ⟨hl, hf⟩ := rdbU_struct (fs := Tryz.prog.fieldsOf 31) (by kernel_rfl) h
  obtain ⟨c, hc, hc'⟩ := rdb_cfg (cs := (cs.drop 0).take 6) (hf 0 _ rfl).rdb
  obtain ⟨ht, hht⟩ := rdb_u32 (cs := (cs.drop 6).take 1) (hf 1 _ rfl).rdb
  obtain ⟨ha, hha, hha'⟩ := rdb_int Tryz.underlying25 (cs := (cs.drop 7).take 1) (hf 2 _ rfl).rdb
  obtain ⟨ne, hne⟩ := rdb_u32 (cs := (cs.drop 8).take 1) (hf 3 _ rfl).rdb
  obtain ⟨wi, hwi, w1, w2, w3⟩ := rdbU_slice (cs := (cs.drop 9).take 1) (ec := Blk.c) (sz := 65) (Q := fun x => SlAt w.heap.size w Id.c 32 x.tx ∧ x.tx.l.length ≤ N) Tryz.underlying26 (by kernel_rfl) (by omega) (fun c _ hc => rdbU_blk hc) (hf 4 _ rfl)
  obtain ⟨se, hse, s1, s2, _⟩ := rdbU_slice (cs := (cs.drop 10).take 1) (ec := Sess.c) (sz := 4) (Q := fun _ => True) Tryz.underlying27 (by kernel_rfl) (by omega) (fun c _ hc => (rdb_sess hc.rdb).imp fun x hx => ⟨hx, trivial⟩) (hf 5 _ rfl)
  obtain ⟨bl, hbl, b1, b2, b3⟩ := rdbU_slice (cs := (cs.drop 11).take 1) (ec := Blob.c) (sz := 19) (Q := fun x => SlAt w.heap.size w u8L 1 x.data ∧ x.data.l.length ≤ N) Tryz.underlying28 (by kernel_rfl) (by omega) (fun c _ hc => rdbU_blob hc) (hf 6 _ rfl)
  obtain ⟨jo, hjo, j1, j2, j3⟩ := rdbU_slice (cs := (cs.drop 12).take 1) (ec := Job.c) (sz := 38) (Q := fun x => PayAt w.heap.size w x.pay ∧ -9223372036854775808 ≤ x.live ∧ x.live ≤ 9223372036854775807) Tryz.underlying29 (by kernel_rfl) (by omega) (fun c _ hc => rdb_job hc.rdb) (hf 7 _ rfl)
  have h3 : cs.drop 13 = [] := List.drop_eq_nil_of_le (by rw [hl]; exact Nat.le_of_eq (by kernel_rfl))
  have h1 := drop_split cs 0 6
  rw [drop_split cs (0 + 6) 1, drop_split cs (0 + 6 + 1) 1, drop_split cs (0 + 6 + 1 + 1) 1, drop_split cs (0 + 6 + 1 + 1 + 1) 1, drop_split cs (0 + 6 + 1 + 1 + 1 + 1) 1, drop_split cs (0 + 6 + 1 + 1 + 1 + 1 + 1) 1, drop_split cs (0 + 6 + 1 + 1 + 1 + 1 + 1 + 1) 1, hc, hht, hha, hne, hwi, hse, hbl, hjo, h3, List.drop_zero] at h1
  refine ⟨⟨c, ht, ha, ne, wi, se, bl, jo⟩, h1, ⟨w1, fun b hb => (w3 b hb).1, s1, ⟨b1, fun b hb => (b3 b hb).1⟩, j1, fun j hj => (j3 j hj).1⟩, ⟨w2, fun b hb => (w3 b hb).2, s2, b2, fun b hb => (b3 b hb).2, j2⟩, fun y hy => ?_, fun j hj => (j3 j hj).2⟩
  rcases List.mem_append.1 (show y ∈ [c.dep, c.stp, c.kep, c.ses, c.cap, c.com] ++ [ha] from hy) with hy | hy
  · exact hc' y hy
  · simp at hy
    subst hy
    exact lit_i64 hha'
end
end Go.Proofs.YteabebmlclgakaaGreat
