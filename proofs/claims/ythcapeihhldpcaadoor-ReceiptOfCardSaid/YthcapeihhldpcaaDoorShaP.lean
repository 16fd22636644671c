/- ShaP: SHA-256 as plain Lean. No condition. -/
import Derived.Test.YthcapeihhldpcaaDoorBits
namespace Go.Proofs.YthcapeihhldpcaaDoor
set_option linter.unusedSimpArgs false
set_option linter.unusedVariables false
open Go.RowKit

structure S8 where
  a : UInt32
  b : UInt32
  c : UInt32
  d : UInt32
  e : UInt32
  f : UInt32
  g : UInt32
  h : UInt32
abbrev S8.l (s : S8) : List UInt32 := [s.a, s.b, s.c, s.d, s.e, s.f, s.g, s.h]
def rot (x : UInt32) (n : Nat) : UInt32 := sr x n ||| sl x (32 - n)
def x3 (x y z : UInt32) : UInt32 := (x ^^^ y) ^^^ z
def sg0 (x : UInt32) : UInt32 := x3 (rot x 7) (rot x 18) (sr x 3)
def sg1 (x : UInt32) : UInt32 := x3 (rot x 17) (rot x 19) (sr x 10)
def ep1 (x : UInt32) : UInt32 := x3 (rot x 6) (rot x 11) (rot x 25)
def ep0 (x : UInt32) : UInt32 := x3 (rot x 2) (rot x 13) (rot x 22)
def ch (x y z : UInt32) : UInt32 := z ^^^ (x &&& (y ^^^ z))
def maj (x y z : UInt32) : UInt32 := (x &&& y) ||| (z &&& (x ||| y))
theorem ch_eq (x y z : UInt32) : (x &&& y) ^^^ ((4294967295 ^^^ x) &&& z) = ch x y z := by
  apply UInt32.toBitVec_inj.1
  simp only [ch, UInt32.toBitVec_xor, UInt32.toBitVec_and]
  ext i hi
  have h1 : (4294967295#32)[i] = true := by
    have : (4294967295#32) = BitVec.allOnes 32 := by decide
    simp only [this, BitVec.getElem_allOnes]
  have h2 : (UInt32.toBitVec 4294967295)[i] = true := h1
  simp only [BitVec.getElem_xor, BitVec.getElem_and, h2]
  cases x.toBitVec[i] <;> cases y.toBitVec[i] <;> cases z.toBitVec[i] <;> rfl
theorem maj_eq (x y z : UInt32) : ((x &&& y) ^^^ (x &&& z)) ^^^ (y &&& z) = maj x y z := by
  apply UInt32.toBitVec_inj.1
  simp only [maj, UInt32.toBitVec_xor, UInt32.toBitVec_and, UInt32.toBitVec_or]
  ext i hi
  simp only [BitVec.getElem_xor, BitVec.getElem_and, BitVec.getElem_or]
  cases x.toBitVec[i] <;> cases y.toBitVec[i] <;> cases z.toBitVec[i] <;> rfl
def shaK : List UInt32 := [0x428a2f98, 0x71374491, 0xb5c0fbcf, 0xe9b5dba5, 0x3956c25b, 0x59f111f1, 0x923f82a4, 0xab1c5ed5] ++
  [0xd807aa98, 0x12835b01, 0x243185be, 0x550c7dc3, 0x72be5d74, 0x80deb1fe, 0x9bdc06a7, 0xc19bf174] ++
  [0xe49b69c1, 0xefbe4786, 0x0fc19dc6, 0x240ca1cc, 0x2de92c6f, 0x4a7484aa, 0x5cb0a9dc, 0x76f988da] ++
  [0x983e5152, 0xa831c66d, 0xb00327c8, 0xbf597fc7, 0xc6e00bf3, 0xd5a79147, 0x06ca6351, 0x14292967] ++
  [0x27b70a85, 0x2e1b2138, 0x4d2c6dfc, 0x53380d13, 0x650a7354, 0x766a0abb, 0x81c2c92e, 0x92722c85] ++
  [0xa2bfe8a1, 0xa81a664b, 0xc24b8b70, 0xc76c51a3, 0xd192e819, 0xd6990624, 0xf40e3585, 0x106aa070] ++
  [0x19a4c116, 0x1e376c08, 0x2748774c, 0x34b0bcb5, 0x391c0cb3, 0x4ed8aa4a, 0x5b9cca4f, 0x682e6ff3] ++
  [0x748f82ee, 0x78a5636f, 0x84c87814, 0x8cc70208, 0x90befffa, 0xa4506ceb, 0xbef9a3f7, 0xc67178f2]
def shaS : S8 := ⟨0x6a09e667, 0xbb67ae85, 0x3c6ef372, 0xa54ff53a, 0x510e527f, 0x9b05688c, 0x1f83d9ab, 0x5be0cd19⟩
/-- a list's word -/
def nth (l : List UInt32) (i : Nat) : UInt32 := l.getD i 0
theorem nth_get {l : List UInt32} {i : Nat} (h : i < l.length) : l[i]? = some (nth l i) := by
  unfold nth
  rw [List.getD_eq_getElem?_getD, List.getElem?_eq_getElem h]
  rfl
theorem nth_app {l r : List UInt32} {i : Nat} (h : i < l.length) : nth (l ++ r) i = nth l i := by
  unfold nth
  rw [List.getD_eq_getElem?_getD, List.getD_eq_getElem?_getD, List.getElem?_append_left h]
/-- the next word -/
def nextW (l : List UInt32) : UInt32 := ((sg1 (nth l (l.length - 2)) + nth l (l.length - 7)) + sg0 (nth l (l.length - 15))) + nth l (l.length - 16)
def sched (l : List UInt32) : Nat → List UInt32
  | 0 => l
  | n + 1 => sched l n ++ [nextW (sched l n)]
theorem sched_len (l : List UInt32) : ∀ n, (sched l n).length = l.length + n
  | 0 => rfl
  | n + 1 => by rw [sched, List.length_append, sched_len l n]; rfl
def rnd (k w : UInt32) (v : S8) : S8 :=
  ⟨((((v.h + ep1 v.e) + ch v.e v.f v.g) + k) + w) + (ep0 v.a + maj v.a v.b v.c), v.a, v.b, v.c, v.d + ((((v.h + ep1 v.e) + ch v.e v.f v.g) + k) + w), v.e, v.f, v.g⟩
def rnds (W : List UInt32) (v : S8) : Nat → S8
  | 0 => v
  | n + 1 => rnd (nth shaK n) (nth W n) (rnds W v n)
def wrd (a b c d : UInt8) : UInt32 := UInt32.ofNat (((a.toNat * 256 + b.toNat) * 256 + c.toNat) * 256 + d.toNat)
def wordsOf : List UInt8 → List UInt32
  | a :: b :: c :: d :: r => wrd a b c d :: wordsOf r
  | _ => []
def S8.add (v s : S8) : S8 := ⟨v.a + s.a, v.b + s.b, v.c + s.c, v.d + s.d, v.e + s.e, v.f + s.f, v.g + s.g, v.h + s.h⟩
def takeS (s : S8) (p : List UInt8) : S8 := (rnds (sched (wordsOf p) 48) s 64).add s
/-- n pieces -/
def piecesS (s : S8) (b : List UInt8) : Nat → S8
  | 0 => s
  | n + 1 => takeS (piecesS s b n) ((b.drop (64 * n)).take 64)
def bytesOf (l : List UInt32) : List UInt8 := l.flatMap fun x => [byt x 24, byt x 16, byt x 8, byt x 0]
def be8 (n : Nat) : List UInt8 := [UInt8.ofNat (n / 2 ^ 56), UInt8.ofNat (n / 2 ^ 48), UInt8.ofNat (n / 2 ^ 40), UInt8.ofNat (n / 2 ^ 32), UInt8.ofNat (n / 2 ^ 24), UInt8.ofNat (n / 2 ^ 16), UInt8.ofNat (n / 2 ^ 8), UInt8.ofNat n]
def padK (n : Nat) : Nat := (119 - n % 64) % 64
def endS (n : Nat) : List UInt8 := 128 :: (List.replicate (padK n) 0 ++ be8 (8 * n % 2 ^ 64))
def padded (b : List UInt8) : List UInt8 := b ++ endS b.length
def shaL (b : List UInt8) : List UInt8 := bytesOf (piecesS shaS (padded b) ((padded b).length / 64)).l
theorem padded_len (b : List UInt8) : (padded b).length % 64 = 0 := by
  simp only [padded, endS, be8, List.length_append, List.length_cons, List.length_replicate, List.length_nil, padK]
  omega
theorem bytesOf_len (l : List UInt32) : (bytesOf l).length = 4 * l.length := by
  induction l with
  | nil => rfl
  | cons x l ih => rw [bytesOf, List.flatMap_cons, List.length_append, ← bytesOf, ih]; simp; omega
theorem shaL_len (b : List UInt8) : (shaL b).length = 32 := by rw [shaL, bytesOf_len]; rfl
theorem wordsOf_len : ∀ (n : Nat) (b : List UInt8), b.length = 4 * n → (wordsOf b).length = n
  | 0, [], _ => rfl
  | n + 1, a :: b :: c :: d :: r, h => by
    rw [wordsOf, List.length_cons, wordsOf_len n r (by simp at h; omega)]
  | n + 1, [], h => by simp at h
  | n + 1, [_], h => by simp at h; omega
  | n + 1, [_, _], h => by simp at h; omega
  | n + 1, [_, _, _], h => by simp at h; omega
  | 0, _ :: _, h => by simp at h
theorem wordsOf_drop (b : List UInt8) (i : Nat) (h : i + 4 ≤ b.length) : wordsOf (b.drop i) = wrd (b[i]) (b[i + 1]) (b[i + 2]) (b[i + 3]) :: wordsOf (b.drop (i + 4)) := by
  rw [List.drop_eq_getElem_cons (by omega : i < b.length), List.drop_eq_getElem_cons (by omega : i + 1 < b.length), List.drop_eq_getElem_cons (by omega : i + 1 + 1 < b.length), List.drop_eq_getElem_cons (by omega : i + 1 + 1 + 1 < b.length)]
  rfl
theorem wordsOf_take (b : List UInt8) : ∀ (n : Nat), 4 * (n + 1) ≤ b.length → wordsOf (b.take (4 * (n + 1))) = wordsOf (b.take (4 * n)) ++ [wrd (b.getD (4 * n) 0) (b.getD (4 * n + 1) 0) (b.getD (4 * n + 2) 0) (b.getD (4 * n + 3) 0)] := by
  intro n
  induction n generalizing b with
  | zero =>
    intro h
    match b, h with
    | a :: b :: c :: d :: r, _ => simp [wordsOf]
    | [], h => simp at h
    | [_], h => simp at h
    | [_, _], h => simp at h
    | [_, _, _], h => simp at h
  | succ n ih =>
    intro h
    match b, h with
    | a :: b :: c :: d :: r, h =>
      have h1 := ih r (by simp at h; omega)
      rw [show 4 * (n + 1 + 1) = 4 * (n + 1) + 1 + 1 + 1 + 1 by omega, show 4 * (n + 1) = 4 * n + 1 + 1 + 1 + 1 by omega]
      simp only [List.take_succ_cons, wordsOf, List.cons_append]
      rw [show 4 * n + 1 + 1 + 1 + 1 = 4 * (n + 1) by omega, h1]
      simp only [show 4 * (n + 1) = 4 * n + 1 + 1 + 1 + 1 by omega, show 4 * n + 1 + 1 + 1 + 1 + 1 = (4 * n + 1) + 1 + 1 + 1 + 1 by omega, show 4 * n + 1 + 1 + 1 + 1 + 2 = (4 * n + 2) + 1 + 1 + 1 + 1 by omega, show 4 * n + 1 + 1 + 1 + 1 + 3 = (4 * n + 3) + 1 + 1 + 1 + 1 by omega, List.getD_cons_succ]
    | [], h => simp at h
    | [_], h => simp at h; omega
    | [_, _], h => simp at h; omega
    | [_, _, _], h => simp at h; omega
/-- pieces behind pieces -/
theorem pieces_pre (s : S8) (b c : List UInt8) : ∀ (n : Nat), 64 * n ≤ b.length → piecesS s (b ++ c) n = piecesS s b n
  | 0, _ => rfl
  | n + 1, h => by
    rw [piecesS, piecesS, pieces_pre s b c n (by omega), List.drop_append_of_le_length (by omega), List.take_append_of_le_length (by rw [List.length_drop]; omega)]
theorem pieces_more (s : S8) (b : List UInt8) (m : Nat) : ∀ (n : Nat), piecesS (piecesS s b m) (b.drop (64 * m)) n = piecesS s b (m + n)
  | 0 => rfl
  | n + 1 => by
    rw [piecesS, pieces_more s b m n, ← Nat.add_assoc, piecesS, List.drop_drop, show 64 * m + 64 * n = 64 * (m + n) by omega]
/-- what a hash holds of all bytes -/
def doneS (b : List UInt8) : S8 := piecesS shaS b (b.length / 64)
def restS (b : List UInt8) : List UInt8 := b.drop (64 * (b.length / 64))
theorem restS_len (b : List UInt8) : (restS b).length = b.length % 64 := by rw [restS, List.length_drop]; omega
theorem done_app (b c : List UInt8) : piecesS (doneS b) (restS b ++ c) ((restS b ++ c).length / 64) = doneS (b ++ c) ∧ (restS b ++ c).drop (64 * ((restS b ++ c).length / 64)) = restS (b ++ c) := by
  have h1 : (b ++ c).drop (64 * (b.length / 64)) = restS b ++ c := by rw [List.drop_append_of_le_length (by omega), restS]
  have h2 : (b.length / 64) + (restS b ++ c).length / 64 = (b ++ c).length / 64 := by
    rw [List.length_append, List.length_append, restS_len]; omega
  constructor
  · have h3 := pieces_more shaS (b ++ c) (b.length / 64) ((restS b ++ c).length / 64)
    rw [h1, pieces_pre shaS b c _ (by omega), h2] at h3
    exact h3
  · rw [← h1, List.drop_drop, restS, ← h2, h1]
    congr 1
    omega
theorem sha_of (b : List UInt8) : shaL b = bytesOf (doneS (b ++ endS b.length)).l := rfl
/-- a byte as a word -/
abbrev u84 (x : UInt8) : UInt32 := UInt32.ofNat x.toNat
theorem u84_nat (x : UInt8) : (u84 x).toNat = x.toNat := by
  have := x.toNat_lt
  simp only [u84, UInt32.toNat_ofNat']
  exact Nat.mod_eq_of_lt (by omega)
theorem ar_u84 {f : Int → Prop} (x : UInt8) (h : f ((u84 x).toNat : Int)) : Ar .u32 (x.toNat : Int) f := by
  refine ⟨_, ?_, h⟩
  rw [wrap_u32]
theorem or_add (a b i : Nat) (h : b < 2 ^ i) : a * 2 ^ i ||| b = a * 2 ^ i + b := by
  rw [← Nat.shiftLeft_eq, Nat.shiftLeft_add_eq_or_of_lt h]
theorem wrd_or (a b c d : UInt8) : ((sl (u84 a) 24 ||| sl (u84 b) 16) ||| sl (u84 c) 8) ||| u84 d = wrd a b c d := by
  have ha := a.toNat_lt
  have hb := b.toNat_lt
  have hc := c.toNat_lt
  have hd := d.toNat_lt
  apply UInt32.toNat_inj.1
  rw [UInt32.toNat_or, UInt32.toNat_or, UInt32.toNat_or, sl_nat, sl_nat, sl_nat, u84_nat, u84_nat, u84_nat, u84_nat]
  rw [Nat.mod_eq_of_lt (by omega : a.toNat * 2 ^ 24 < 4294967296), Nat.mod_eq_of_lt (by omega : b.toNat * 2 ^ 16 < 4294967296), Nat.mod_eq_of_lt (by omega : c.toNat * 2 ^ 8 < 4294967296)]
  rw [or_add a.toNat _ 24 (by omega)]
  rw [show a.toNat * 2 ^ 24 + b.toNat * 2 ^ 16 = (a.toNat * 256 + b.toNat) * 2 ^ 16 by omega, or_add _ _ 16 (by omega)]
  rw [show (a.toNat * 256 + b.toNat) * 2 ^ 16 + c.toNat * 2 ^ 8 = ((a.toNat * 256 + b.toNat) * 256 + c.toNat) * 2 ^ 8 by omega, or_add _ _ 8 (by omega)]
  simp only [wrd, UInt32.toNat_ofNat']
  exact (Nat.mod_eq_of_lt (by omega)).symm
theorem wrd_nat (a b c d : UInt8) : (wrd a b c d).toNat = ((a.toNat * 256 + b.toNat) * 256 + c.toNat) * 256 + d.toNat := by
  have ha := a.toNat_lt
  have hb := b.toNat_lt
  have hc := c.toNat_lt
  have hd := d.toNat_lt
  simp only [wrd, UInt32.toNat_ofNat']
  exact Nat.mod_eq_of_lt (by omega)
theorem ofNat8 {m n : Nat} (h : m % 256 = n % 256) : UInt8.ofNat m = UInt8.ofNat n := by
  apply UInt8.toNat_inj.1
  simpa using h
theorem be8_of (n : Nat) (h : n < 2 ^ 64) : bytesOf [UInt32.ofNat (n / 2 ^ 32), UInt32.ofNat n] = be8 n := by
  have h1 : (UInt32.ofNat (n / 2 ^ 32)).toNat = n / 2 ^ 32 := by
    simp only [UInt32.toNat_ofNat']
    exact Nat.mod_eq_of_lt (by omega)
  have h2 : (UInt32.ofNat n).toNat = n % 2 ^ 32 := by simp only [UInt32.toNat_ofNat']
  simp only [bytesOf, be8, byt, List.flatMap_cons, List.flatMap_nil, List.append_nil, List.cons_append, List.nil_append, h1, h2]
  congr 1
  · exact ofNat8 (by omega)
  congr 1
  · exact ofNat8 (by omega)
  congr 1
  · exact ofNat8 (by omega)
  congr 1
  · exact ofNat8 (by omega)
  congr 1
  · exact ofNat8 (by omega)
  congr 1
  · exact ofNat8 (by omega)
  congr 1
  · exact ofNat8 (by omega)
  congr 1
  · exact ofNat8 (by omega)
end Go.Proofs.YthcapeihhldpcaaDoor
