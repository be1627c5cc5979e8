/- The pure laws of captures, part A: both checksums are the same number. -/
import Derived.Test.YtkolbflmihfokaaPcapx4
import Derived.Test.YtkolbflmihfokaaPcapXCrc
namespace Go.Proofs.Ytkolbflmihfokaa.Pure
open Go.RowKit Go.Proofs.Ytkolbflmihfokaa.Pcap Go.Proofs.YtkolbflmihfokaaW.PrintWords Go.Proofs.YtkolbflmihfokaaW.PrintLast

/-- A remainder times x, as a natural number. -/
def hN (c : Nat) : Nat := if c % 2 = 1 then (c / 2) ^^^ 3988292384 else c / 2
def itN : Nat → Nat → Nat
  | 0, c => c
  | n + 1, c => hN (itN n c)

theorem hN_lt {c : Nat} (h : c < 4294967296) : hN c < 4294967296 := by
  unfold hN
  split
  · exact Nat.xor_lt_two_pow (n := 32) (by omega) (by decide)
  · omega
theorem itN_lt (n : Nat) {c : Nat} (h : c < 4294967296) : itN n c < 4294967296 := by
  induction n with
  | zero => exact h
  | succ n ih => exact hN_lt ih

theorem hN_xor (a b : Nat) : hN (a ^^^ b) = hN a ^^^ hN b := by
  have hm : (a ^^^ b) % 2 = (a % 2) ^^^ (b % 2) := by simpa using Nat.xor_mod_two_pow (a := a) (b := b) (n := 1)
  have hd : (a ^^^ b) / 2 = (a / 2) ^^^ (b / 2) := by simpa using Nat.xor_div_two_pow (a := a) (b := b) (n := 1)
  unfold hN
  rw [hm, hd]
  have ha : a % 2 = 0 ∨ a % 2 = 1 := by omega
  have hb : b % 2 = 0 ∨ b % 2 = 1 := by omega
  rcases ha with ha | ha <;> rcases hb with hb | hb <;> rw [ha, hb]
  · simp
  · simp [Nat.xor_assoc]
  · simp only [Nat.xor_zero, if_true, Nat.zero_ne_one, if_false]
    rw [Nat.xor_assoc (a / 2) (b / 2), Nat.xor_comm (b / 2) 3988292384, Nat.xor_assoc]
  · have e : (a / 2 ^^^ 3988292384) ^^^ (b / 2 ^^^ 3988292384) = a / 2 ^^^ b / 2 := by
      rw [Nat.xor_comm (b / 2) 3988292384, Nat.xor_assoc, ← Nat.xor_assoc 3988292384, Nat.xor_self, Nat.zero_xor]
    simp [e]
theorem itN_xor (n a b : Nat) : itN n (a ^^^ b) = itN n a ^^^ itN n b := by
  induction n with
  | zero => rfl
  | succ n ih => rw [itN, ih, hN_xor]; rfl
theorem hN_even (v : Nat) : hN (v * 2) = v := by
  unfold hN
  rw [if_neg (by omega)]
  omega
theorem itN_succ (n c : Nat) : itN (n + 1) c = itN n (hN c) := by
  induction n with
  | zero => rfl
  | succ n ih => rw [itN, ih]; rfl
theorem itN_shift (v : Nat) : itN 8 (v * 256) = v := by
  rw [itN_succ, show v * 256 = (v * 128) * 2 by omega, hN_even, itN_succ, show v * 128 = (v * 64) * 2 by omega, hN_even, itN_succ, show v * 64 = (v * 32) * 2 by omega, hN_even, itN_succ, show v * 32 = (v * 16) * 2 by omega, hN_even,
    itN_succ, show v * 16 = (v * 8) * 2 by omega, hN_even, itN_succ, show v * 8 = (v * 4) * 2 by omega, hN_even, itN_succ, show v * 4 = (v * 2) * 2 by omega, hN_even, itN_succ, hN_even]
  rfl
theorem split256 (c : Nat) : c = (c / 256 * 256) ^^^ (c % 256) := by
  apply Nat.eq_of_testBit_eq
  intro i
  rw [Nat.testBit_xor, show c / 256 * 256 = (c / 2 ^ 8) * 2 ^ 8 from rfl, show c % 256 = c % 2 ^ 8 from rfl, Nat.testBit_mul_two_pow, Nat.testBit_mod_two_pow, Nat.testBit_div_two_pow]
  by_cases h : i < 8
  · simp [h, show ¬ 8 ≤ i by omega]
  · simp [h, show 8 ≤ i by omega, show i - 8 + 8 = i by omega]
theorem step8 (c b : Nat) : itN 8 (c ^^^ b) = (c / 256) ^^^ itN 8 ((c % 256) ^^^ b) := by
  have e : c ^^^ b = (c / 256 * 256) ^^^ ((c % 256) ^^^ b) := by rw [← Nat.xor_assoc, ← split256]
  rw [e, itN_xor, itN_shift]

theorem bits_xor_nat (k : IntKind) (j : Nat) (hj : j ≤ k.bits) (hk : ∀ n : Int, 0 ≤ n → n < 2 ^ j → k.wrap n = n) (a b : Nat) (ha : a < 2 ^ j) (hb : b < 2 ^ j) : Go.bits .xor k a b = ((a ^^^ b : Nat) : Int) := by
  have hp : 2 ^ j ≤ 2 ^ k.bits := Nat.pow_le_pow_right (by decide) hj
  have ha' : a % 2 ^ k.bits = a := Nat.mod_eq_of_lt (Nat.lt_of_lt_of_le ha hp)
  have hb' : b % 2 ^ k.bits = b := Nat.mod_eq_of_lt (Nat.lt_of_lt_of_le hb hp)
  have cast : ∀ n : Nat, n < 2 ^ j → ((n : Nat) : Int) < 2 ^ j := fun n h => by exact_mod_cast h
  simp only [Go.bits, BitVec.ofInt_natCast, BitVec.toNat_xor, BitVec.toNat_ofNat, ha', hb']
  exact hk _ (Int.natCast_nonneg _) (cast _ (Nat.xor_lt_two_pow ha hb))
theorem xor_u32 (a b : Nat) (ha : a < 4294967296) (hb : b < 4294967296) : Go.bits .xor .u32 a b = ((a ^^^ b : Nat) : Int) :=
  bits_xor_nat .u32 32 (by decide) (fun n h0 h1 => by rw [IntKind.wrap_u32]; omega) a b (by simpa using ha) (by simpa using hb)
theorem xor_u8 (a b : Nat) (ha : a < 256) (hb : b < 256) : Go.bits .xor .u8 a b = ((a ^^^ b : Nat) : Int) :=
  bits_xor_nat .u8 8 (by decide) (fun n h0 h1 => by rw [IntKind.wrap_u8]; omega) a b (by simpa using ha) (by simpa using hb)
theorem xor_i64 (a b : Nat) (ha : a < 4294967296) (hb : b < 4294967296) : Go.bits .xor .i64 a b = ((a ^^^ b : Nat) : Int) :=
  bits_xor_nat .i64 32 (by decide) (fun n h0 h1 => by rw [IntKind.wrap_i64]; omega) a b (by simpa using ha) (by simpa using hb)

theorem crcHalf_nat (a : Nat) (h : a < 4294967296) : crcHalf (a : Int) = ((hN a : Nat) : Int) := by
  have hm : Go.bits .and .u32 (a : Int) 1 = (a : Int) % 2 := by
    have := bits_mask .u32 32 (by decide) (fun n h0 h1 => by rw [IntKind.wrap_u32]; omega) 1 (by decide) (a : Int) (by omega) (by omega)
    simpa using this
  unfold crcHalf hN
  rw [hm]
  by_cases c : a % 2 = 1
  · rw [if_pos (by omega), if_pos c, show (a : Int) / 2 = ((a / 2 : Nat) : Int) by omega]
    exact xor_u32 (a / 2) 3988292384 (by omega) (by decide)
  · rw [if_neg (by omega), if_neg c]
    omega
theorem crcTimes_nat (n a : Nat) (h : a < 4294967296) : crcTimes n (a : Int) = ((itN n a : Nat) : Int) := by
  induction n with
  | zero => rfl
  | succ n ih => rw [crcTimes, ih, crcHalf_nat _ (itN_lt n h)]; rfl

/-- The byte at i, as a natural number. -/
def bN (s : ByteArray) (i : Nat) : Nat := (bt s i).toNat
theorem bN_lt (s : ByteArray) (i : Nat) : bN s i < 256 := by have := bt_range s i; unfold bN; omega
theorem bt_bN (s : ByteArray) (i : Nat) : bt s i = ((bN s i : Nat) : Int) := by have := bt_range s i; unfold bN; omega
/-- The remainder behind n bytes. -/
def rN (s : ByteArray) : Nat → Nat
  | 0 => 4294967295
  | n + 1 => itN 8 (rN s n ^^^ bN s n)
theorem rN_lt (s : ByteArray) (n : Nat) : rN s n < 4294967296 := by
  induction n with
  | zero => show (4294967295 : Nat) < 4294967296; decide
  | succ n ih => exact itN_lt 8 (Nat.xor_lt_two_pow (n := 32) ih (by have := bN_lt s n; omega))
theorem crcAt_nat (s : ByteArray) (n : Nat) : crcAt s n = ((rN s n : Nat) : Int) := by
  induction n with
  | zero => rfl
  | succ n ih =>
    have h := rN_lt s n
    have hb := bN_lt s n
    rw [crcAt, ih, rN, step8, show ((rN s n : Nat) : Int) % 256 = ((rN s n % 256 : Nat) : Int) by omega, show ((rN s n : Nat) : Int) / 256 = ((rN s n / 256 : Nat) : Int) by omega, bt_bN, xor_u8 _ _ (by omega) hb]
    have hx : rN s n % 256 ^^^ bN s n < 256 := Nat.xor_lt_two_pow (n := 8) (by omega) hb
    rw [crcTimes_nat 8 _ (by omega), xor_u32 _ _ (by omega) (itN_lt 8 (by omega))]

theorem crc_l1 (s : ByteArray) (x7 x8 : Int) (d : Nat) : ∀ (k m r : Nat), m + d = 8 → r < 4294967296 → patchbayref4_Crc32.l1 (k + d + 1) s (r : Int) x7 x8 (m : Int) = patchbayref4_Crc32.l0 k s ((itN d r : Nat) : Int) x7 (wrap64 (x8 + 1)) := by
  induction d with
  | zero =>
    intro k m r hm hr
    simp only [patchbayref4_Crc32.l1]
    rw [if_neg (by omega)]
    rfl
  | succ d ih =>
    intro k m r hm hr
    rw [show k + (d + 1) + 1 = (k + d + 1) + 1 by omega]
    simp only [patchbayref4_Crc32.l1]
    rw [if_pos (show (m : Int) < 8 by omega)]
    have h2 : wrap64 (Int.tdiv (r : Int) 2) = ((r / 2 : Nat) : Int) := by
      rw [Int.tdiv_eq_ediv_of_nonneg (by omega)]
      unfold wrap64
      omega
    have hw : wrap64 ((m : Int) + 1) = ((m + 1 : Nat) : Int) := by unfold wrap64; omega
    rw [h2, hw, Int.tmod_eq_emod_of_nonneg (by omega), itN_succ]
    by_cases c : r % 2 = 1
    · rw [if_pos (by omega), show (3988292384 : Int) = ((3988292384 : Nat) : Int) from rfl, xor_i64 _ _ (by omega) (by decide)]
      have e : hN r = r / 2 ^^^ 3988292384 := by unfold hN; rw [if_pos c]
      rw [e]
      exact ih k (m + 1) _ (by omega) (by rw [← e]; exact hN_lt hr)
    · rw [if_neg (by omega)]
      have e : hN r = r / 2 := by unfold hN; rw [if_neg c]
      rw [e]
      exact ih k (m + 1) _ (by omega) (by omega)

theorem crc_l0 (s : ByteArray) (hs : s.size ≤ 4611686018427387904) (d : Nat) : ∀ (k i : Nat), i + d = s.size → 10 * d + 1 ≤ k → patchbayref4_Crc32.l0 k s ((rN s i : Nat) : Int) (s.size : Int) (i : Int) = some (((rN s s.size ^^^ 4294967295 : Nat)) : Int) := by
  induction d with
  | zero =>
    intro k i hi hk
    obtain ⟨k, rfl⟩ : ∃ m, k = m + 1 := ⟨k - 1, by omega⟩
    simp only [patchbayref4_Crc32.l0]
    rw [if_neg (by omega), show i = s.size by omega, show (4294967295 : Int) = ((4294967295 : Nat) : Int) from rfl, xor_i64 _ _ (rN_lt s _) (by decide)]
  | succ d ih =>
    intro k i hi hk
    obtain ⟨k, rfl⟩ : ∃ m, k = m + 8 + 1 + 1 := ⟨k - 10, by omega⟩
    simp only [patchbayref4_Crc32.l0]
    have hb := bN_lt s i
    have hw : wrap64 (bt s (i : Int)) = ((bN s i : Nat) : Int) := by rw [bt_bN]; unfold wrap64; omega
    rw [if_pos (by omega), if_pos (by omega), if_pos (by omega), hw, xor_i64 _ _ (rN_lt s i) (by omega)]
    have h1 := crc_l1 s (s.size : Int) (i : Int) 8 k 0 (rN s i ^^^ bN s i) rfl (Nat.xor_lt_two_pow (n := 32) (rN_lt s i) (by omega))
    have hw2 : wrap64 ((i : Int) + 1) = ((i + 1 : Nat) : Int) := by unfold wrap64; omega
    rw [hw2] at h1
    refine Eq.trans h1 ?_
    exact ih k (i + 1) (by omega) (by omega)

/-- The checksum. -/
def crcOf (s : ByteArray) : Nat := rN s s.size ^^^ 4294967295
theorem crcOf_lt (s : ByteArray) : crcOf s < 4294967296 := Nat.xor_lt_two_pow (n := 32) (rN_lt s _) (by decide)
theorem crc_ref (s : ByteArray) (hs : s.size ≤ 4611686018427387904) (k : Nat) (hk : 10 * s.size + 1 ≤ k) : patchbayref4_Crc32.f k s = some ((crcOf s : Nat) : Int) := crc_l0 s hs s.size k 0 (by omega) hk
theorem crc_sum (s : ByteArray) (hs : s.size ≤ 4611686018427387904) : crc_Sum.f s = some ((crcOf s : Nat) : Int) := by
  unfold crc_Sum.f crcOf
  rw [if_pos (by omega), crcAt_nat, show (4294967295 : Int) = ((4294967295 : Nat) : Int) from rfl, xor_u32 _ _ (by decide) (rN_lt s _), Nat.xor_comm]

end Go.Proofs.Ytkolbflmihfokaa.Pure
