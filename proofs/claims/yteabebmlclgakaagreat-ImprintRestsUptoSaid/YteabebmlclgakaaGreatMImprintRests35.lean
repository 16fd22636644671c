/- MImprintRests35: Imp1, Imp2. -/
import Derived.Test.YteabebmlclgakaaGreatMImprintRests34
import Derived.Test.YteabebmlclgakaaGreatMImprintRests23
/- Imp1: package imprint: numbers, written. A writer that has room, or not. -/
namespace Go.Proofs.YteabebmlclgakaaGreat
set_option linter.unusedSimpArgs false
set_option linter.unusedVariables false
open Go.RowKit
set_option maxRecDepth 100000
set_option maxHeartbeats 4000000
/-- what a writer is to have written: it has, or it had not the room -/
structure WrI (room : Nat) (L : List UInt8) (s : Sl UInt8) (bad : Int) : Prop where
  le : s.l.length ≤ L.length
  is : (bad = 0 ∧ s.l = L ∧ L.length ≤ room) ∨ (bad = 3 ∧ room < L.length)
theorem WrI.put {room : Nat} {L : List UInt8} {s s' : Sl UInt8} {bad : Int} (h : WrI room L s bad) (ps : List UInt8) (hs : s'.l = (putW room s.l bad true ps).1) : WrI room (L ++ ps) s' (putW room s.l bad true ps).2 := by
  obtain ⟨h1, h2⟩ := h
  rw [putW] at hs ⊢
  rcases h2 with ⟨rfl, h3, h4⟩ | ⟨rfl, h3⟩
  · rw [if_neg (by simp), if_neg (by simp)] at hs ⊢
    split at hs
    · rename_i h5
      rw [if_pos h5]
      refine ⟨by rw [hs, List.length_append]; show s.l.length ≤ _; omega, .inr ⟨rfl, ?_⟩⟩
      rw [h3] at h5
      rw [List.length_append]
      exact h5
    · rename_i h5
      rw [if_neg h5]
      rw [h3] at h5
      exact ⟨by rw [hs, h3]; exact Nat.le_refl _, .inl ⟨rfl, by rw [hs, h3], by rw [List.length_append]; omega⟩⟩
  · rw [if_pos (by decide)] at hs ⊢
    exact ⟨by rw [hs, List.length_append]; show s.l.length ≤ _; omega, .inr ⟨rfl, by rw [List.length_append]; omega⟩⟩
theorem wnumI_any {w0 : World} {b room : Nat} {s : Sl UInt8} {bad : Int} {L : List UInt8} (n width : Nat) (hw : 1 ≤ width ∧ width ≤ 8) (hn : numFit n width = true) (hnn : n < 2 ^ 64) (hI : WrI room L s bad) (h : (star (wrRs b room s bad)).ok w0) (hL : L.length ≤ 1000000) (hr : room ≤ 2000000000) :
    Calls Tryz.prog 164 #[ptr b, .int .u64 n, i64 width] w0 fun e w' => ∃ (s' : Sl UInt8) (bad' : Int), WrI room (L ++ numB n width) s' bad' ∧ e = .returned (.tuple #[]) ∧ Mut (star (wrRs b room s bad)) (star (wrRs b room s' bad')) w0 w' := by
  have h1 := hI.le
  refine Calls.mono (wnum_any n width hw hnn h (by omega) hr) ?_
  rintro e w ⟨s', hs', rfl, hm⟩
  rw [hn] at hs' hm
  exact ⟨s', _, hI.put _ hs', rfl, hm⟩
def numsB (l : List UInt32) : List UInt8 := l.flatMap fun x => numB x.toNat 4
theorem numFit4 (x : UInt32) : numFit x.toNat 4 = true := by
  have h := x.toNat_lt
  unfold numFit
  rw [show decide (x.toNat / 2 ^ (8 * 4) = 0) = true from decide_eq_true (Nat.div_eq_of_lt (by simpa using h)), Bool.or_true]
theorem nums_any {B : Nat} {w0 : World} {b room : Nat} {s : Sl UInt8} {bad : Int} {L : List UInt8} {x : Sl UInt32} (hI : WrI room L s bad) (h : (star (wrRs b room s bad)).ok w0) (hx : SlOut (star (wrRs b room s bad)).dom B w0 u4L 1 x) (hn : x.l.length ≤ 100) (hL : L.length + 400 ≤ 1000000) (hr : room ≤ 2000000000) :
    Calls Tryz.prog 163 #[ptr b, x.v] w0 fun e w' => ∃ (s' : Sl UInt8) (bad' : Int), WrI room (L ++ numsB x.l) s' bad' ∧ e = .returned (.tuple #[]) ∧ Mut (star (wrRs b room s bad)) (star (wrRs b room s' bad')) w0 w' := by
  have hp := Hp.start1 h
  have u1 := Tryz.underlying199
  refine calls_x (args := [_, _]) tabOk Tryz.func163 Tryz.ntmps163 Tryz.results163 rfl (Nat.le_of_ble_eq_true rfl) ?_
  ((conv => whnf); repeat' (((with_reducible refine gen_id ?_); (apply gen_len; exact rfl; exact rfl; assumption)) <;> (conv => whnf)))
  refine lp_inv (α := Nat × Sl UInt8 × Int) (fun a => [(0, ptr b), (6, x.v), (7, i64 x.l.length), (8, i64 a.1)]) (fun a w => a.1 ≤ x.l.length ∧ WrI room (L ++ numsB (x.l.take a.1)) a.2.1 a.2.2 ∧ Hp (star (wrRs b room s bad)).dom w0 w [star (wrRs b room a.2.1 a.2.2)]) (fun a => x.l.length - a.1) (0, s, bad) (by (repeat' (first | exact trivial | (refine ⟨rfl, ?_⟩)))) ⟨by omega, by simpa [numsB] using hI, hp⟩ ?_
  clear hp hI
  rintro ⟨i, s1, bad1⟩ e0 w ⟨hi, hI, hp⟩
  dsimp only at hi hI hp ⊢
  rcases Nat.lt_or_ge i x.l.length with hlt | hge
  · obtain ⟨bb, o, y, hA, hbb, hrow, hyy⟩ := hx.at_.has hlt
    have hne : x.l ≠ [] := fun e => by rw [e] at hlt; simp at hlt
    have hrow' := hrow.keep hp.chg (hx.out hne bb o hA)
    have hlen : (L ++ numsB (x.l.take i)).length ≤ 1000000 := by
      have h1 : ∀ l : List UInt32, (numsB l).length = 4 * l.length := fun l => by
        induction l with
        | nil => rfl
        | cons z l ih =>
          unfold numsB at ih ⊢
          rw [List.flatMap_cons, List.length_append, ih, numB_len _ _ (by omega), List.length_cons]
          omega
      rw [List.length_append, h1, List.length_take]
      omega
    have hy := y.toNat_lt
    ((conv => whnf); repeat' ((first | ((with_reducible refine br_id ?_); ((with_reducible refine br_dec (fun hx => ?_) (fun hx => ?_)) <;> (try (exfalso; first | omega | exact absurd hx (by assumption) | exact absurd (by assumption) hx)))) | ((with_reducible refine ar_id ?_); (refine ar_u64 (by omega) ?_)) | ((with_reducible refine ld_id ?_); ((refine ld_rowat0 hrow' i rfl hyy rfl ?_))) | ((with_reducible refine gen_id ?_); ((refine gen_ixs rfl rfl hA rfl rfl (by omega) ?_)))) <;> (conv => whnf)))
    refine cl_eq (wnumI_any y.toNat 4 (by omega) (numFit4 y) (by omega) hI (hp.get (j := 0) rfl) hlen hr) rfl rfl ?_
    rintro e w ⟨s2, bad2, hI2, rfl, hm⟩
    replace hp := hp.via (j := 0) rfl hm
    clear hm
    dsimp only [List.set] at hp
    refine ⟨_, rfl, ?_⟩
    ((conv => whnf); repeat' (((with_reducible refine ar_id ?_); (refine ar_i64 (by omega) ?_)) <;> (conv => whnf)))
    refine lp_next (i + 1, s2, bad2) (by show x.l.length - (i + 1) < x.l.length - i; omega) (by (repeat' (first | exact trivial | (refine ⟨rfl, ?_⟩)))) ⟨by show i + 1 ≤ _; omega, ?_, hp⟩
    show WrI room (L ++ numsB (x.l.take (i + 1))) s2 bad2
    rw [List.append_assoc] at hI2
    have h3 : numsB (x.l.take (i + 1)) = numsB (x.l.take i) ++ numB y.toNat 4 := by
      unfold numsB
      rw [List.take_add_one, hyy, List.flatMap_append]
      simp
    rw [h3]
    exact hI2
  · rw [List.take_of_length_le hge] at hI
    ((conv => whnf); repeat' (((with_reducible refine br_id ?_); ((with_reducible refine br_dec (fun hx => ?_) (fun hx => ?_)) <;> (try (exfalso; first | omega | exact absurd hx (by assumption) | exact absurd (by assumption) hx)))) <;> (conv => whnf)))
    exact ps_val (v' := .tuple #[]) rfl ⟨s1, bad1, hI, rfl, hp.shut1 (j := 0) rfl⟩
end Go.Proofs.YteabebmlclgakaaGreat
/- Imp2: package imprint: the first state's bytes. -/
namespace Go.Proofs.YteabebmlclgakaaGreat
set_option linter.unusedSimpArgs false
set_option linter.unusedVariables false
open Go.RowKit
set_option maxRecDepth 100000
set_option maxHeartbeats 4000000
section
variable {w0 : World} {b room : Nat} {s : Sl UInt8} {bad : Int} {L : List UInt8} {f : Value}
theorem layW0_any {width : Nat} (hw : 1 ≤ width ∧ width ≤ 8) (hI : WrI room L s bad) (h : (star (wrRs b room s bad)).ok w0) (hL : L.length ≤ 1000000) (hr : room ≤ 2000000000) :
    Calls Tryz.prog 165 #[ptr b, i64 width, (Sl.nil (α := Blk)).v, f] w0 fun e w' => ∃ (s' : Sl UInt8) (bad' : Int), WrI room (L ++ numB 0 width) s' bad' ∧ e = .returned (.tuple #[]) ∧ Mut (star (wrRs b room s bad)) (star (wrRs b room s' bad')) w0 w' := by
  have hp := Hp.start1 h
  have u1 := Tryz.underlying26
  have hf : numFit 0 width = true := by unfold numFit; simp
  refine calls_x (args := [_, _, _, _]) tabOk Tryz.func165 Tryz.ntmps165 Tryz.results165 rfl (Nat.le_of_ble_eq_true rfl) ?_
  ((conv => whnf); repeat' ((first | ((with_reducible refine ar_id ?_); ((refine ar_u64 (by simp [Sl.nil]) ?_))) | ((with_reducible refine gen_id ?_); (apply gen_len; exact rfl; exact rfl; assumption))) <;> (conv => whnf)))
  refine cl_eq (wnumI_any 0 width hw hf (by omega) hI (hp.get (j := 0) rfl) hL hr) rfl rfl ?_
  rintro e w ⟨s2, bad2, hI2, rfl, hm⟩
  replace hp := hp.via (j := 0) rfl hm
  clear hm
  dsimp only [List.set] at hp
  refine ⟨_, rfl, ?_⟩
  ((conv => whnf); repeat' (((with_reducible refine gen_id ?_); (apply gen_len; exact rfl; exact rfl; assumption)) <;> (conv => whnf)))
  refine lp_inv (α := Unit) (fun _ => [(16, (Sl.nil (α := Blk)).v), (17, i64 0), (18, i64 0)]) (fun _ w => Hp (star (wrRs b room s bad)).dom w0 w [star (wrRs b room s2 bad2)]) (fun _ => 0) () (by (repeat' (first | exact trivial | (refine ⟨rfl, ?_⟩)))) hp ?_
  clear hp
  rintro _ e0 w hp
  ((conv => whnf); repeat' (((with_reducible refine br_id ?_); ((with_reducible refine br_dec (fun hx => ?_) (fun hx => ?_)) <;> (try (exfalso; first | omega | exact absurd hx (by assumption) | exact absurd (by assumption) hx)))) <;> (conv => whnf)))
  exact ps_val (v' := .tuple #[]) rfl ⟨s2, bad2, hI2, rfl, hp.shut1 (j := 0) rfl⟩
theorem layS0_any {width : Nat} (hw : 1 ≤ width ∧ width ≤ 8) (hI : WrI room L s bad) (h : (star (wrRs b room s bad)).ok w0) (hL : L.length ≤ 1000000) (hr : room ≤ 2000000000) :
    Calls Tryz.prog 169 #[ptr b, i64 width, (Sl.nil (α := Sess)).v, f] w0 fun e w' => ∃ (s' : Sl UInt8) (bad' : Int), WrI room (L ++ numB 0 width) s' bad' ∧ e = .returned (.tuple #[]) ∧ Mut (star (wrRs b room s bad)) (star (wrRs b room s' bad')) w0 w' := by
  have hp := Hp.start1 h
  have u1 := Tryz.underlying27
  have hf : numFit 0 width = true := by unfold numFit; simp
  refine calls_x (args := [_, _, _, _]) tabOk Tryz.func169 Tryz.ntmps169 Tryz.results169 rfl (Nat.le_of_ble_eq_true rfl) ?_
  ((conv => whnf); repeat' ((first | ((with_reducible refine ar_id ?_); ((refine ar_u64 (by simp [Sl.nil]) ?_))) | ((with_reducible refine gen_id ?_); (apply gen_len; exact rfl; exact rfl; assumption))) <;> (conv => whnf)))
  refine cl_eq (wnumI_any 0 width hw hf (by omega) hI (hp.get (j := 0) rfl) hL hr) rfl rfl ?_
  rintro e w ⟨s2, bad2, hI2, rfl, hm⟩
  replace hp := hp.via (j := 0) rfl hm
  clear hm
  dsimp only [List.set] at hp
  refine ⟨_, rfl, ?_⟩
  ((conv => whnf); repeat' (((with_reducible refine gen_id ?_); (apply gen_len; exact rfl; exact rfl; assumption)) <;> (conv => whnf)))
  refine lp_inv (α := Unit) (fun _ => [(16, (Sl.nil (α := Sess)).v), (17, i64 0), (18, i64 0)]) (fun _ w => Hp (star (wrRs b room s bad)).dom w0 w [star (wrRs b room s2 bad2)]) (fun _ => 0) () (by (repeat' (first | exact trivial | (refine ⟨rfl, ?_⟩)))) hp ?_
  clear hp
  rintro _ e0 w hp
  ((conv => whnf); repeat' (((with_reducible refine br_id ?_); ((with_reducible refine br_dec (fun hx => ?_) (fun hx => ?_)) <;> (try (exfalso; first | omega | exact absurd hx (by assumption) | exact absurd (by assumption) hx)))) <;> (conv => whnf)))
  exact ps_val (v' := .tuple #[]) rfl ⟨s2, bad2, hI2, rfl, hp.shut1 (j := 0) rfl⟩
theorem layB0_any {width : Nat} (hw : 1 ≤ width ∧ width ≤ 8) (hI : WrI room L s bad) (h : (star (wrRs b room s bad)).ok w0) (hL : L.length ≤ 1000000) (hr : room ≤ 2000000000) :
    Calls Tryz.prog 171 #[ptr b, i64 width, (Sl.nil (α := Blob)).v, f] w0 fun e w' => ∃ (s' : Sl UInt8) (bad' : Int), WrI room (L ++ numB 0 width) s' bad' ∧ e = .returned (.tuple #[]) ∧ Mut (star (wrRs b room s bad)) (star (wrRs b room s' bad')) w0 w' := by
  have hp := Hp.start1 h
  have u1 := Tryz.underlying28
  have hf : numFit 0 width = true := by unfold numFit; simp
  refine calls_x (args := [_, _, _, _]) tabOk Tryz.func171 Tryz.ntmps171 Tryz.results171 rfl (Nat.le_of_ble_eq_true rfl) ?_
  ((conv => whnf); repeat' ((first | ((with_reducible refine ar_id ?_); ((refine ar_u64 (by simp [Sl.nil]) ?_))) | ((with_reducible refine gen_id ?_); (apply gen_len; exact rfl; exact rfl; assumption))) <;> (conv => whnf)))
  refine cl_eq (wnumI_any 0 width hw hf (by omega) hI (hp.get (j := 0) rfl) hL hr) rfl rfl ?_
  rintro e w ⟨s2, bad2, hI2, rfl, hm⟩
  replace hp := hp.via (j := 0) rfl hm
  clear hm
  dsimp only [List.set] at hp
  refine ⟨_, rfl, ?_⟩
  ((conv => whnf); repeat' (((with_reducible refine gen_id ?_); (apply gen_len; exact rfl; exact rfl; assumption)) <;> (conv => whnf)))
  refine lp_inv (α := Unit) (fun _ => [(16, (Sl.nil (α := Blob)).v), (17, i64 0), (18, i64 0)]) (fun _ w => Hp (star (wrRs b room s bad)).dom w0 w [star (wrRs b room s2 bad2)]) (fun _ => 0) () (by (repeat' (first | exact trivial | (refine ⟨rfl, ?_⟩)))) hp ?_
  clear hp
  rintro _ e0 w hp
  ((conv => whnf); repeat' (((with_reducible refine br_id ?_); ((with_reducible refine br_dec (fun hx => ?_) (fun hx => ?_)) <;> (try (exfalso; first | omega | exact absurd hx (by assumption) | exact absurd (by assumption) hx)))) <;> (conv => whnf)))
  exact ps_val (v' := .tuple #[]) rfl ⟨s2, bad2, hI2, rfl, hp.shut1 (j := 0) rfl⟩
theorem layJ0_any {width : Nat} (hw : 1 ≤ width ∧ width ≤ 8) (hI : WrI room L s bad) (h : (star (wrRs b room s bad)).ok w0) (hL : L.length ≤ 1000000) (hr : room ≤ 2000000000) :
    Calls Tryz.prog 174 #[ptr b, i64 width, (Sl.nil (α := Job)).v, f] w0 fun e w' => ∃ (s' : Sl UInt8) (bad' : Int), WrI room (L ++ numB 0 width) s' bad' ∧ e = .returned (.tuple #[]) ∧ Mut (star (wrRs b room s bad)) (star (wrRs b room s' bad')) w0 w' := by
  have hp := Hp.start1 h
  have u1 := Tryz.underlying29
  have hf : numFit 0 width = true := by unfold numFit; simp
  refine calls_x (args := [_, _, _, _]) tabOk Tryz.func174 Tryz.ntmps174 Tryz.results174 rfl (Nat.le_of_ble_eq_true rfl) ?_
  ((conv => whnf); repeat' ((first | ((with_reducible refine ar_id ?_); ((refine ar_u64 (by simp [Sl.nil]) ?_))) | ((with_reducible refine gen_id ?_); (apply gen_len; exact rfl; exact rfl; assumption))) <;> (conv => whnf)))
  refine cl_eq (wnumI_any 0 width hw hf (by omega) hI (hp.get (j := 0) rfl) hL hr) rfl rfl ?_
  rintro e w ⟨s2, bad2, hI2, rfl, hm⟩
  replace hp := hp.via (j := 0) rfl hm
  clear hm
  dsimp only [List.set] at hp
  refine ⟨_, rfl, ?_⟩
  ((conv => whnf); repeat' (((with_reducible refine gen_id ?_); (apply gen_len; exact rfl; exact rfl; assumption)) <;> (conv => whnf)))
  refine lp_inv (α := Unit) (fun _ => [(16, (Sl.nil (α := Job)).v), (17, i64 0), (18, i64 0)]) (fun _ w => Hp (star (wrRs b room s bad)).dom w0 w [star (wrRs b room s2 bad2)]) (fun _ => 0) () (by (repeat' (first | exact trivial | (refine ⟨rfl, ?_⟩)))) hp ?_
  clear hp
  rintro _ e0 w hp
  ((conv => whnf); repeat' (((with_reducible refine br_id ?_); ((with_reducible refine br_dec (fun hx => ?_) (fun hx => ?_)) <;> (try (exfalso; first | omega | exact absurd hx (by assumption) | exact absurd (by assumption) hx)))) <;> (conv => whnf)))
  exact ps_val (v' := .tuple #[]) rfl ⟨s2, bad2, hI2, rfl, hp.shut1 (j := 0) rfl⟩
end
/-- the first state -/
abbrev staF : Sta := ⟨⟨1, 1, 1, 1, 1, 1⟩, 0, 0, 0, Sl.nil, Sl.nil, Sl.nil, Sl.nil⟩
abbrev fC : List Value := i64 1 :: i64 1 :: i64 1 :: i64 1 :: i64 1 :: i64 1 :: u32 0 :: i64 0 :: u32 0 :: (Sl.nil (α := Blk)).v :: (Sl.nil (α := Sess)).v :: (Sl.nil (α := Blob)).v :: (Sl.nil (α := Job)).v :: []
theorem iwrite_first {w0 : World} {room : Nat} (hr : 39 ≤ room ∧ room ≤ 2000000000) : Calls Tryz.prog 92 #[.agg fC.toArray, i64 room] w0 fun e w' => ∃ r : Sl UInt8, r.l.length = 39 ∧ e = .returned (.tuple #[r.v, i64 0]) ∧ Made (rowR 5 1 u8L r) w0 w' := by
  have hp := Hp.start (S := N0) w0
  obtain ⟨hr1, hr2⟩ := hr
  refine calls_x (args := [_, _]) tabOk Tryz.func92 Tryz.ntmps92 Tryz.results92 rfl (Nat.le_of_ble_eq_true rfl) ?_
  ((conv => whnf); repeat' (((with_reducible refine al_id ?_); (refine al_cel hp ?_; clear hp; intro bb w hp)) <;> (conv => whnf)))
  obtain ⟨b2, hb2⟩ : ∃ b, b = bb := ⟨_, rfl⟩
  subst hb2
  refine cl_eq (wnew_any room hr2) rfl rfl ?_
  rintro e w ⟨bw, rfl, hm⟩
  replace hp := hp.add hm
  clear hm
  refine ⟨_, rfl, ?_⟩
  ((conv => whnf); repeat' ((first | ((with_reducible refine cn_id ?_); (refine cn rfl ?_)) | ((with_reducible refine ld_id ?_); (apply ld_hs hp; (focus ((repeat (first | exact Has.here | apply Has.there)); done)); exact rfl)) | ((with_reducible refine ldn_id ?_); (apply ldn_hs hp; (focus ((repeat (first | exact Has.here | apply Has.there)); done)); exact rfl; exact rfl)) | ((with_reducible refine al_id ?_); (refine al_cel hp ?_; clear hp; intro bb w hp)) | ((with_reducible refine st_id ?_); (apply sta_hs hp; (focus ((repeat (first | exact Has.here | apply Has.there)); done)); exact rfl; exact rfl; clear hp; intro w hp; (try dsimp only [List.set] at hp))) | ((with_reducible refine gen_id ?_); (apply gen_build; exact rfl; exact rfl))) <;> (conv => whnf)))
  obtain ⟨b7, hb7⟩ : ∃ b, b = bb := ⟨_, rfl⟩
  subst hb7
  obtain ⟨b6, hb6⟩ : ∃ b, b = bb := ⟨_, rfl⟩
  subst hb6
  have hp0 : Hp N0 w0 w [cel b6 230 #[ptr bw], star (wrRs bw room Sl.nil 0), cel b2 31 fC.toArray] := hp.tail
  clear hp
  have hI0 : WrI room [] (Sl.nil (α := UInt8)) 0 := ⟨Nat.le_refl _, .inl ⟨rfl, rfl, Nat.zero_le _⟩⟩
  refine lp_inv (α := Nat × List UInt8 × Sl UInt8 × Int) (fun a => [(2, ptr b2), (6, ptr b6), (26, .agg #[i64 1, i64 1, i64 1, i64 1, i64 1, i64 1]), (27, i64 a.1)]) (fun a w => a.1 ≤ 6 ∧ a.2.1.length = 4 * a.1 ∧ WrI room a.2.1 a.2.2.1 a.2.2.2 ∧ Hp N0 w0 w [cel b6 230 #[ptr bw], star (wrRs bw room a.2.2.1 a.2.2.2), cel b2 31 fC.toArray]) (fun a => 6 - a.1) (0, [], Sl.nil, 0) (by (repeat' (first | exact trivial | (refine ⟨rfl, ?_⟩)))) ⟨by omega, rfl, hI0, hp0⟩ ?_
  clear hp0 hI0
  rintro ⟨i, L, s, bad⟩ e0 w ⟨hi, hL, hI, hp⟩
  dsimp only at hi hL hI hp ⊢
  rcases Nat.lt_or_ge i 6 with hlt | hge
  · have hy6 : ([1, 1, 1, 1, 1, 1] : List Int)[i]? = some 1 := by
      rcases i with _ | _ | _ | _ | _ | _ | i
      · rfl
      · rfl
      · rfl
      · rfl
      · rfl
      · rfl
      · omega
    have u6 := Tryz.underlying232
    ((conv => whnf); repeat' ((first | ((with_reducible refine br_id ?_); ((with_reducible refine br_dec (fun hx => ?_) (fun hx => ?_)) <;> (try (exfalso; first | omega | exact absurd hx (by assumption) | exact absurd (by assumption) hx)))) | ((with_reducible refine ar_id ?_); (refine ar_u32 (by omega) ?_)) | ((with_reducible refine ld_id ?_); (apply ld_hs hp; (focus ((repeat (first | exact Has.here | apply Has.there)); done)); exact rfl)) | ((with_reducible refine gen_id ?_); first | ((refine gen_arx (f := fun z : Int => i64 z) (l := [1, 1, 1, 1, 1, 1]) rfl u6 rfl rfl rfl (by omega) i (by omega) hy6 ?_)) | ((refine gen_bs rfl hp el_u4 u4L [(1 : UInt32)] [u4 1] rfl rfl rfl (fun _ hh => by simp at hh; subst hh; rfl) (by omega) ?_); clear hp; intro br w hp))) <;> (conv => whnf)))
    refine cl_eq (nums_any (B := w.heap.size) (x := ⟨some ⟨br, 0, none⟩, 1, [1]⟩) hI (hp.get (j := 2) rfl) (out_row hp (by simp)) (by simp) (by omega) hr2) rfl rfl ?_
    rintro e w ⟨s2, bad2, hI2, rfl, hm⟩
    replace hp := hp.via (j := 2) rfl hm
    clear hm
    dsimp only [List.set] at hp
    refine ⟨_, rfl, ?_⟩
    ((conv => whnf); repeat' (((with_reducible refine ar_id ?_); (refine ar_i64 (by omega) ?_)) <;> (conv => whnf)))
    exact lp_next (i + 1, L ++ numsB [1], s2, bad2) (by show 6 - (i + 1) < 6 - i; omega) (by (repeat' (first | exact trivial | (refine ⟨rfl, ?_⟩)))) ⟨by show i + 1 ≤ _; omega, by show (L ++ numsB [1]).length = 4 * (i + 1); rw [List.length_append, hL]; exact (Nat.mul_succ 4 i).symm, hI2, hp.tail⟩
  obtain rfl : i = 6 := by omega
  clear hi hge
  ((conv => whnf); repeat' ((first | ((with_reducible refine br_id ?_); ((with_reducible refine br_dec (fun hx => ?_) (fun hx => ?_)) <;> (try (exfalso; first | omega | exact absurd hx (by assumption) | exact absurd (by assumption) hx)))) | ((with_reducible refine ld_id ?_); (apply ld_hs hp; (focus ((repeat (first | exact Has.here | apply Has.there)); done)); exact rfl)) | ((with_reducible refine gen_id ?_); ((refine gen_bs rfl hp el_u4 u4L [(0 : UInt32)] [u4 0] rfl rfl rfl (fun _ hh => by simp at hh; subst hh; rfl) (by omega) ?_); clear hp; intro br w hp))) <;> (conv => whnf)))
  have hz1 : (numsB [0]).length = 4 := rfl
  have hz2 : ∀ k, k ≤ 8 → (numB 0 k).length = k := fun k hk => numB_len 0 k hk
  have hf : ∀ k, numFit 0 k = true := fun k => by unfold numFit; simp
  refine cl_eq (nums_any (B := w.heap.size) (x := ⟨some ⟨br, 0, none⟩, 1, [0]⟩) hI (hp.get (j := 2) rfl) (out_row hp (by simp)) (by simp) (by omega) hr2) rfl rfl ?_
  rintro e w ⟨s1, bad1, hI1, rfl, hm⟩
  replace hp := hp.via (j := 2) rfl hm
  clear hm
  dsimp only [List.set] at hp
  replace hp := hp.tail
  refine ⟨_, rfl, ?_⟩
  ((conv => whnf); repeat' ((first | ((with_reducible refine ar_id ?_); (refine ar_u64 (by omega) ?_)) | ((with_reducible refine ld_id ?_); (apply ld_hs hp; (focus ((repeat (first | exact Has.here | apply Has.there)); done)); exact rfl))) <;> (conv => whnf)))
  refine cl_eq (wnumI_any 0 1 (by omega) (hf 1) (by omega) hI1 (hp.get (j := 1) rfl) (by simp only [List.length_append, hz1]; omega) hr2) rfl rfl ?_
  rintro e w ⟨s2, bad2, hI2, rfl, hm⟩
  replace hp := hp.via (j := 1) rfl hm
  clear hm
  dsimp only [List.set] at hp
  refine ⟨_, rfl, ?_⟩
  ((conv => whnf); repeat' ((first | ((with_reducible refine ld_id ?_); (apply ld_hs hp; (focus ((repeat (first | exact Has.here | apply Has.there)); done)); exact rfl)) | ((with_reducible refine gen_id ?_); ((refine gen_bs rfl hp el_u4 u4L [(0 : UInt32)] [u4 0] rfl rfl rfl (fun _ hh => by simp at hh; subst hh; rfl) (by omega) ?_); clear hp; intro br w hp))) <;> (conv => whnf)))
  refine cl_eq (nums_any (B := w.heap.size) (x := ⟨some ⟨br, 0, none⟩, 1, [0]⟩) hI2 (hp.get (j := 2) rfl) (out_row hp (by simp)) (by simp) (by simp only [List.length_append, hz1, hz2 1 (by omega)]; omega) hr2) rfl rfl ?_
  rintro e w ⟨s3, bad3, hI3, rfl, hm⟩
  replace hp := hp.via (j := 2) rfl hm
  clear hm
  dsimp only [List.set] at hp
  replace hp := hp.tail
  refine ⟨_, rfl, ?_⟩
  ((conv => whnf); repeat' ((first | ((with_reducible refine ld_id ?_); (apply ld_hs hp; (focus ((repeat (first | exact Has.here | apply Has.there)); done)); exact rfl)) | ((with_reducible refine gen_id ?_); ((refine gen_mkf rfl rfl ?_)))) <;> (conv => whnf)))
  refine cl_eq (layW0_any (width := 1) (by omega) hI3 (hp.get (j := 1) rfl) (by simp only [List.length_append, hz1, hz2 1 (by omega), hz2 2 (by omega)]; omega) hr2) rfl rfl ?_
  rintro e w ⟨s4, bad4, hI4, rfl, hm⟩
  replace hp := hp.via (j := 1) rfl hm
  clear hm
  dsimp only [List.set] at hp
  refine ⟨_, rfl, ?_⟩
  ((conv => whnf); repeat' ((first | ((with_reducible refine ld_id ?_); (apply ld_hs hp; (focus ((repeat (first | exact Has.here | apply Has.there)); done)); exact rfl)) | ((with_reducible refine gen_id ?_); ((refine gen_mkf rfl rfl ?_)))) <;> (conv => whnf)))
  refine cl_eq (layS0_any (width := 1) (by omega) hI4 (hp.get (j := 1) rfl) (by simp only [List.length_append, hz1, hz2 1 (by omega), hz2 2 (by omega)]; omega) hr2) rfl rfl ?_
  rintro e w ⟨s5, bad5, hI5, rfl, hm⟩
  replace hp := hp.via (j := 1) rfl hm
  clear hm
  dsimp only [List.set] at hp
  refine ⟨_, rfl, ?_⟩
  ((conv => whnf); repeat' ((first | ((with_reducible refine ld_id ?_); (apply ld_hs hp; (focus ((repeat (first | exact Has.here | apply Has.there)); done)); exact rfl)) | ((with_reducible refine gen_id ?_); ((refine gen_mkf rfl rfl ?_)))) <;> (conv => whnf)))
  refine cl_eq (layB0_any (width := 2) (by omega) hI5 (hp.get (j := 1) rfl) (by simp only [List.length_append, hz1, hz2 1 (by omega), hz2 2 (by omega)]; omega) hr2) rfl rfl ?_
  rintro e w ⟨s6, bad6, hI6, rfl, hm⟩
  replace hp := hp.via (j := 1) rfl hm
  clear hm
  dsimp only [List.set] at hp
  refine ⟨_, rfl, ?_⟩
  ((conv => whnf); repeat' ((first | ((with_reducible refine ld_id ?_); (apply ld_hs hp; (focus ((repeat (first | exact Has.here | apply Has.there)); done)); exact rfl)) | ((with_reducible refine gen_id ?_); ((refine gen_mkf rfl rfl ?_)))) <;> (conv => whnf)))
  refine cl_eq (layJ0_any (width := 2) (by omega) hI6 (hp.get (j := 1) rfl) (by simp only [List.length_append, hz1, hz2 1 (by omega), hz2 2 (by omega)]; omega) hr2) rfl rfl ?_
  rintro e w ⟨s7, bad7, hI7, rfl, hm⟩
  replace hp := hp.via (j := 1) rfl hm
  clear hm
  dsimp only [List.set] at hp
  refine ⟨_, rfl, ?_⟩
  ((conv => whnf); repeat' (((with_reducible refine ld_id ?_); (apply ld_hs hp; (focus ((repeat (first | exact Has.here | apply Has.there)); done)); exact rfl)) <;> (conv => whnf)))
  have hlen : (((((((L ++ numsB [0]) ++ numB 0 1) ++ numsB [0]) ++ numB 0 1) ++ numB 0 1) ++ numB 0 2) ++ numB 0 2).length = 39 := by
    simp only [List.length_append, hz1, hz2 1 (by omega), hz2 2 (by omega), hL]
  obtain ⟨hd0, hs7⟩ : bad7 = 0 ∧ s7.l.length = 39 := by
    rcases hI7.is with ⟨h1, h2, h3⟩ | ⟨h1, h2⟩
    · exact ⟨h1, by rw [h2]; exact hlen⟩
    · rw [show _ = 39 from hlen] at h2
      omega
  subst hd0
  refine cl_eq (wdone_any (hp.get (j := 1) rfl) (by omega)) rfl rfl ?_
  rintro e w ⟨r, hr, rfl, hm⟩
  replace hp := hp.add hm
  clear hm
  refine ⟨_, rfl, ?_⟩
  ((conv => whnf); repeat' ((first | ((with_reducible refine br_id ?_); first | (with_reducible refine br_t ?_) | (with_reducible refine br_f ?_) | (with_reducible refine br_not ?_) | ((with_reducible refine br_dec (fun hx => ?_) (fun hx => ?_)) <;> (try (exfalso; first | omega | exact absurd hx (by assumption) | exact absurd (by assumption) hx))) | ((with_reducible refine br_eq (fun hx => ?_) (fun hx => ?_)) <;> (try (exfalso; first | omega | exact absurd hx (by assumption) | exact absurd (by assumption) hx))) | ((with_reducible refine br_ne (fun hx => ?_) (fun hx => ?_)) <;> (try (exfalso; first | omega | exact absurd hx (by assumption) | exact absurd (by assumption) hx))) | ((with_reducible refine br_s (fun hx => ?_) (fun hx => ?_)) <;> (try (exfalso; first | omega | exact absurd hx (by assumption) | exact absurd (by assumption) hx)))) | ((with_reducible refine ar_id ?_); first | (refine ar_i64 (by omega) ?_) | (refine ar_u32 (by omega) ?_) | (refine ar_u64 (by omega) ?_) | (refine ar_u8 (by omega) ?_)) | ((with_reducible refine cn_id ?_); first | (refine cn rfl ?_) | (refine cn (by assumption) ?_) | (refine cn (by omega) ?_) | (refine cn (Chg.refl _ _) ?_)) | ((with_reducible refine ld_id ?_); first | (apply ld_hs hp; (focus ((repeat (first | exact Has.here | apply Has.there)); done)); exact rfl) | (refine ld_of (by assumption) ?_)) | ((with_reducible refine ldn_id ?_); first | (apply lda_hs hp; (focus ((repeat (first | exact Has.here | apply Has.there)); done)); exact rfl) | (apply ldn_hs hp; (focus ((repeat (first | exact Has.here | apply Has.there)); done)); exact rfl; exact rfl)) | ((with_reducible refine al_id ?_); (refine al_cel hp ?_; clear hp; intro bb w hp)) | ((with_reducible refine st_id ?_); first | (apply sta_hs hp; (focus ((repeat (first | exact Has.here | apply Has.there)); done)); exact rfl; exact rfl; clear hp; intro w hp; (try dsimp only [List.set] at hp)) | (apply st_hs hp; (focus ((repeat (first | exact Has.here | apply Has.there)); done)); exact rfl; exact rfl; clear hp; intro w hp; (try dsimp only [List.set] at hp))) | ((with_reducible refine gen_id ?_); first | ((refine gen_mkf rfl rfl ?_)) | (apply gen_build; exact rfl; exact rfl) | (apply gen_len; exact rfl; exact rfl; assumption) | (apply gen_min; exact rfl; exact rfl; exact rfl) | (apply gen_max; exact rfl; exact rfl; exact rfl) | (apply gen_ix; exact rfl; exact rfl; exact rfl; exact rfl; omega) | (apply gen_ixa; exact rfl; exact rfl; exact rfl; exact rfl; omega)) | ((with_reducible refine dr_id ?_); first | (refine dr_auto tabOk (by kernel_rfl) (by decide +kernel) ?_; (try replace hp := hp.drew)) | (refine dr_autog tabOk (by kernel_rfl) (by decide +kernel) ?_; (try replace hp := hp.drew)) | (refine dr_autot tabOk (by kernel_rfl) (by decide +kernel) ?_; (try replace hp := hp.drew))) | ((with_reducible refine fk_id ?_); (refine fk_mk ?_ ?_)) | ((with_reducible refine rd_id ?_); first | (apply rd_len; exact rfl; exact rfl; assumption) | (apply rd_ix; exact rfl; exact rfl; exact rfl; exact rfl; omega))) <;> (conv => whnf)))
  exact ps_val (v' := .tuple #[r.v, i64 0]) rfl ⟨r, by rw [hr, if_pos rfl]; exact hs7, rfl, hp.made1 (j := 0) rfl⟩
theorem right_first : rightS staF = true := by decide
theorem sta_first {w : World} : StaAt w.heap.size w staF := ⟨.none_, fun _ h => (by cases h), .none_, ⟨.none_, fun _ h => (by cases h)⟩, .none_, fun _ h => (by cases h)⟩
theorem few_first : FewI staF := ⟨by decide, by decide, by decide, by decide, fun _ h => (by cases h), fun _ h => (by cases h), fun _ h => (by cases h)⟩
theorem bright_first (w0 : World) : Calls Tryz.prog 35 #[.agg fC.toArray] w0 fun e w' => e = .returned (.bool true) ∧ Chg N0 w0 w' := by
  have h := bright_any (w0 := w0) sta_first (Nat.le_refl _) few_first (fun _ h => (by cases h))
  rw [right_first] at h
  exact h
theorem enc_first (w0 : World) : Calls Tryz.prog 43 #[.agg fC.toArray] w0 fun e w' => ∃ r : Sl UInt8, r.l.length = 39 ∧ e = .returned (.tuple #[r.v, i64 0]) ∧ Made (rowR 5 1 u8L r) w0 w' := by
  have hp := Hp.start (S := N0) w0
  refine calls_x (args := [_]) tabOk Tryz.func43 Tryz.ntmps43 Tryz.results43 rfl (Nat.le_of_ble_eq_true rfl) ?_
  ((conv => whnf); repeat' ((first | ((with_reducible refine br_id ?_); first | (with_reducible refine br_t ?_) | (with_reducible refine br_not ?_)) | ((with_reducible refine ldn_id ?_); (apply lda_hs hp; (focus ((repeat (first | exact Has.here | apply Has.there)); done)); exact rfl)) | ((with_reducible refine al_id ?_); (refine al_cel hp ?_; clear hp; intro bb w hp)) | ((with_reducible refine cl_id ?_); ((refine cl_eq ((bright_first _)) rfl rfl ?_; rintro e w ⟨rfl, hcc⟩; replace hp := hp.call0 hcc; refine ⟨_, rfl, ?_⟩)))) <;> (conv => whnf)))
  refine cl_eq (iwrite_first (room := 60000) (by omega)) rfl rfl ?_
  rintro e w ⟨r, hr, rfl, hm⟩
  replace hp := hp.add hm
  clear hm
  refine ⟨_, rfl, ?_⟩
  ((conv => whnf); repeat' (((with_reducible refine br_id ?_); ((with_reducible refine br_ne (fun hx => ?_) (fun hx => ?_)) <;> (try (exfalso; first | omega | exact absurd hx (by assumption) | exact absurd (by assumption) hx)))) <;> (conv => whnf)))
  exact ps_val (v' := .tuple #[r.v, i64 0]) rfl ⟨r, hr, rfl, hp.made1 (j := 0) rfl⟩
theorem bytes_first (w0 : World) : Calls Tryz.prog 45 #[.agg fC.toArray] w0 fun e w' => e = .returned (i64 39) ∧ Chg N0 w0 w' := by
  have hp := Hp.start (S := N0) w0
  have u1 := Tryz.underlying38
  refine calls_x (args := [_]) tabOk Tryz.func45 Tryz.ntmps45 Tryz.results45 rfl (Nat.le_of_ble_eq_true rfl) ?_
  ((conv => whnf); repeat' ((first | ((with_reducible refine br_id ?_); first | (with_reducible refine br_t ?_) | (with_reducible refine br_not ?_)) | ((with_reducible refine ldn_id ?_); (apply lda_hs hp; (focus ((repeat (first | exact Has.here | apply Has.there)); done)); exact rfl)) | ((with_reducible refine al_id ?_); (refine al_cel hp ?_; clear hp; intro bb w hp)) | ((with_reducible refine cl_id ?_); ((refine cl_eq ((bright_first _)) rfl rfl ?_; rintro e w ⟨rfl, hcc⟩; replace hp := hp.call0 hcc; refine ⟨_, rfl, ?_⟩)))) <;> (conv => whnf)))
  refine cl_eq (iwrite_first (room := 1073741824) (by omega)) rfl rfl ?_
  rintro e w ⟨r, hr, rfl, hm⟩
  replace hp := hp.add hm
  clear hm
  refine ⟨_, rfl, ?_⟩
  ((conv => whnf); repeat' (((with_reducible refine gen_id ?_); (apply gen_len; exact rfl; exact rfl; assumption)) <;> (conv => whnf)))
  exact ps_val (v' := i64 r.l.length) rfl ⟨by rw [hr]; rfl, hp.chg⟩
theorem first32_any (w0 : World) : Calls Tryz.prog 44 #[] w0 fun e w' => e = .returned (.agg fC.toArray) ∧ Chg N0 w0 w' := by
  have hp := Hp.start (S := N0) w0
  refine calls_x (args := []) tabOk Tryz.func44 Tryz.ntmps44 Tryz.results44 rfl (Nat.le_of_ble_eq_true rfl) ?_
  ((conv => whnf); repeat' ((first | ((with_reducible refine cn_id ?_); (refine cn rfl ?_)) | ((with_reducible refine ldn_id ?_); (apply lda_hs hp; (focus ((repeat (first | exact Has.here | apply Has.there)); done)); exact rfl)) | ((with_reducible refine al_id ?_); (refine al_cel hp ?_; clear hp; intro bb w hp)) | ((with_reducible refine st_id ?_); (apply sta_hs hp; (focus ((repeat (first | exact Has.here | apply Has.there)); done)); exact rfl; exact rfl; clear hp; intro w hp; (try dsimp only [List.set] at hp))) | ((with_reducible refine gen_id ?_); first | ((refine gen_build (t := 31) (out := fC) rfl (by kernel_rfl) ?_)) | (apply gen_build; exact rfl; exact rfl))) <;> (conv => whnf)))
  exact ps_val (v' := .agg fC.toArray) rfl ⟨rfl, hp.chg⟩
theorem alive32_any (w0 : World) : Calls Tryz.prog 10 #[] w0 fun e w' => e = .returned (.bool true) ∧ Chg N0 w0 w' := by
  have hp := Hp.start (S := N0) w0
  have u1 := Tryz.underlying38
  refine calls_x (args := []) tabOk Tryz.func10 Tryz.ntmps10 Tryz.results10 rfl (Nat.le_of_ble_eq_true rfl) ?_
  ((conv => whnf); repeat' (((with_reducible refine cl_id ?_); ((refine cl_eq ((first32_any _)) rfl rfl ?_; rintro e w ⟨rfl, hcc⟩; replace hp := hp.call0 hcc; refine ⟨_, rfl, ?_⟩))) <;> (conv => whnf)))
  refine cl_eq (enc_first _) rfl rfl ?_
  rintro e w ⟨r, hr, rfl, hm⟩
  replace hp := hp.add hm
  clear hm
  refine ⟨_, rfl, ?_⟩
  ((conv => whnf); repeat' ((first | ((with_reducible refine br_id ?_); first | (with_reducible refine br_t ?_) | ((with_reducible refine br_eq (fun hx => ?_) (fun hx => ?_)) <;> (try (exfalso; first | omega | exact absurd hx (by assumption) | exact absurd (by assumption) hx)))) | ((with_reducible refine gen_id ?_); (apply gen_len; exact rfl; exact rfl; assumption)) | ((with_reducible refine cl_id ?_); first | ((refine cl_eq ((first32_any _)) rfl rfl ?_; rintro e w ⟨rfl, hcc⟩; replace hp := hp.call0 hcc; refine ⟨_, rfl, ?_⟩)) | ((refine cl_eq ((bytes_first _)) rfl rfl ?_; rintro e w ⟨rfl, hcc⟩; replace hp := hp.call0 hcc; refine ⟨_, rfl, ?_⟩)))) <;> (conv => whnf)))
  all_goals first
    | exact ps_val (v' := .bool true) rfl ⟨rfl, hp.chg⟩
    | omega
end Go.Proofs.YteabebmlclgakaaGreat
