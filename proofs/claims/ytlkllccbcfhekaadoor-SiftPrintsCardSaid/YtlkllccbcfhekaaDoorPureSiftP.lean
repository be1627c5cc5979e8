/- What a valid filter's text is: sift.printed and the reference's SiftString answer it. -/
import Derived.Test.YtlkllccbcfhekaaDoorSiftx5
import Derived.Test.YtlkllccbcfhekaaDoorSiftx4
import Derived.Test.YtlkllccbcfhekaaDoorSiftx9
import Derived.Test.YtlkllccbcfhekaaDoorSiftx8
import Derived.Test.YtlkllccbcfhekaaDoorPureSiftF
namespace Go.Proofs.YtlkllccbcfhekaaDoor.Sift
open Go.RowKit Go.Proofs.YtlkllccbcfhekaaDoorW.PrintWords
namespace Pure
set_option maxRecDepth 100000

def num (v : Int) : ByteArray := ⟨(Lib.itoa v).toArray⟩
theorem ba_ext {a b : ByteArray} (h : a.toList = b.toList) : a = b := by
  have h2 : a.data.toList = b.data.toList := by simpa [ByteArray.toList_eq] using h
  cases a; cases b; simp only at h2; rw [Array.ext' h2]
theorem dec_size : ∀ n : Nat, (Lib.decDigits n).length ≤ n + 1 := by
  intro n
  induction n using Nat.strongRecOn with
  | _ n ih =>
    rw [Lib.decDigits]
    split
    · simp
    · have := ih (n / 10) (by omega)
      simp only [List.length_append, List.length_cons, List.length_nil]
      omega
theorem num_nat (n : Nat) : num (n : Int) = ⟨(Lib.decDigits n).toArray⟩ := by
  unfold num Lib.itoa
  rw [if_neg (by omega), Int.toNat_natCast]
theorem num_size (v : Int) (h0 : 0 ≤ v) (h1 : v < 4294967296) : (num v).size ≤ 4294967296 := by
  obtain ⟨n, rfl⟩ := Int.eq_ofNat_of_zero_le h0
  rw [num_nat]
  have := dec_size n
  show (Lib.decDigits n).toArray.size ≤ _
  simp only [List.size_toArray]
  omega
theorem digit_at : ∀ n : Fin 10, (⟨#[48, 49, 50, 51, 52, 53, 54, 55, 56, 57]⟩ : ByteArray).extract n.val (n.val + 1) = ⟨(Lib.decDigits n.val).toArray⟩ := by
  intro n
  have h : Lib.decDigits n.val = [UInt8.ofNat (48 + n.val)] := by rw [Lib.decDigits, dif_pos n.isLt]
  rw [h]
  revert n
  decide +kernel
theorem app_mk (a b : List UInt8) : (⟨a.toArray⟩ : ByteArray) ++ ⟨b.toArray⟩ = ⟨(a ++ b).toArray⟩ := by
  apply ba_ext
  simp [ByteArray.toList_eq]
theorem digits_is : ∀ n : Nat, n < 4294967296 → ∃ k, patchbayref4_Digits.f k (n : Int) = some (num (n : Int)) := by
  intro n
  induction n using Nat.strongRecOn with
  | _ n ih =>
    intro hn
    by_cases h : n < 10
    · refine ⟨1, ?_⟩
      have hw : wrap64 ((n : Int) + 1) = ((n + 1 : Nat) : Int) := by rw [w64 (by omega) (by omega)]; rfl
      rw [patchbayref4_Digits.f, if_pos (by omega), if_pos (by omega), hw, if_pos (by omega), if_pos (by omega), num_nat, Int.toNat_natCast, Int.toNat_natCast, digit_at ⟨n, h⟩]
    · obtain ⟨k1, h1⟩ := ih (n / 10) (by omega) (by omega)
      obtain ⟨k2, h2⟩ := ih (n % 10) (by omega) (by omega)
      refine ⟨max k1 k2 + 1, ?_⟩
      have e1 : wrap64 (Int.tdiv (n : Int) 10) = ((n / 10 : Nat) : Int) := by rw [Int.tdiv_eq_ediv_of_nonneg (by omega), w64 (by omega) (by omega)]; omega
      have e2 : Int.tmod (n : Int) 10 = ((n % 10 : Nat) : Int) := by rw [Int.tmod_eq_emod_of_nonneg (by omega)]; omega
      rw [patchbayref4_Digits.f, if_neg (by omega), e1, e2, up (f := fun k => patchbayref4_Digits.f k ((n / 10 : Nat) : Int)) (fun k => patchbayref4_Digits.mono _ k) (Nat.le_max_left k1 k2) h1, Option.bind_some,
        up (f := fun k => patchbayref4_Digits.f k ((n % 10 : Nat) : Int)) (fun k => patchbayref4_Digits.mono _ k) (Nat.le_max_right k1 k2) h2, Option.bind_some]
      have s1 := num_size ((n / 10 : Nat) : Int) (by omega) (by omega)
      have s2 := num_size ((n % 10 : Nat) : Int) (by omega) (by omega)
      rw [if_pos (by omega), num_nat, num_nat, num_nat, app_mk]
      congr 3
      rw [Lib.decDigits.eq_def n, dif_neg h, Lib.decDigits.eq_def (n % 10), dif_pos (by omega)]
theorem digits_int (v : Int) (h0 : 0 ≤ v) (h1 : v < 4294967296) : ∃ k, patchbayref4_Digits.f k v = some (num v) := by
  obtain ⟨n, rfl⟩ := Int.eq_ofNat_of_zero_le h0
  exact digits_is n (by omega)
theorem itoa_is (v : Int) (h0 : 0 ≤ v) (h1 : v < 4294967296) : strconv_Itoa.f v = some (num v) := by
  unfold strconv_Itoa.f
  rw [if_pos ⟨by omega, by omega⟩]
  rfl
/-- An address's text. -/
def adr (v : Int) : ByteArray := (((((num (v / 16777216) ++ (⟨#[46]⟩ : ByteArray)) ++ num (v / 65536 % 256)) ++ (⟨#[46]⟩ : ByteArray)) ++ num (v / 256 % 256)) ++ (⟨#[46]⟩ : ByteArray)) ++ num (v % 256)
theorem adr_size (v : Int) (h0 : 0 ≤ v) (h1 : v < 4294967296) : (adr v).size ≤ 17179869190 := by
  have s1 := num_size (v / 16777216) (by omega) (by omega)
  have s2 := num_size (v / 65536 % 256) (by omega) (by omega)
  have s3 := num_size (v / 256 % 256) (by omega) (by omega)
  have s4 := num_size (v % 256) (by omega) (by omega)
  unfold adr
  simp only [ByteArray.size_append, show (⟨#[46]⟩ : ByteArray).size = 1 from rfl]
  omega
theorem byte_is (v : Int) (h0 : 0 ≤ v) (h1 : v < 4294967296) (m : Nat) (hm : m ≤ 24) : wrap64 (Go.bits .and .u32 (shr .u32 v (m : Int)) 255) = v / 2 ^ m % 256 := by
  have hs : shr .u32 v (m : Int) = v / 2 ^ m := by
    unfold shr
    rw [Int.toNat_natCast, Nat.min_eq_left (by show m ≤ 32; omega)]
  have hp : (1 : Int) ≤ 2 ^ m := by
    have : 0 < 2 ^ m := Nat.pow_pos (by decide)
    have h2 : ((2 ^ m : Nat) : Int) = 2 ^ m := by simp
    omega
  have hq0 : 0 ≤ v / 2 ^ m := Int.ediv_nonneg h0 (by omega)
  have hq1 : v / 2 ^ m ≤ v := Int.ediv_le_self _ h0
  rw [hs, u32_and _ _ hq0 (by omega) (by decide) (by decide)]
  have e : (v / 2 ^ m).toNat &&& (255 : Int).toNat = (v / 2 ^ m).toNat % 256 := Nat.and_two_pow_sub_one_eq_mod (n := 8) (x := (v / 2 ^ m).toNat)
  rw [e, w64 (by omega) (by omega)]
  omega
theorem join4 (a b c d : List UInt8) : Lib.join [a, b, c, d] [46] = a ++ (46 :: (b ++ (46 :: (c ++ (46 :: d))))) := by
  simp [Lib.join, List.intercalate]
theorem addr_is (v : Int) (h0 : 0 ≤ v) (h1 : v < 4294967296) : addr_Print.f 5 v = some (adr v) := by
  have b0 := byte_is v h0 h1 24 (by omega)
  have b1 := byte_is v h0 h1 16 (by omega)
  have b2 := byte_is v h0 h1 8 (by omega)
  have b3 := byte_is v h0 h1 0 (by omega)
  have c0 : v / 2 ^ 24 % 256 = v / 16777216 := by omega
  have c1 : v / 2 ^ 16 % 256 = v / 65536 % 256 := by omega
  have c2 : v / 2 ^ 8 % 256 = v / 256 % 256 := by omega
  have c3 : v / 2 ^ 0 % 256 = v % 256 := by omega
  rw [c0] at b0; rw [c1] at b1; rw [c2] at b2; rw [c3] at b3
  have w0 : wrap64 ((24 : Int) - 8) = ((16 : Nat) : Int) := by decide +kernel
  have w1 : wrap64 (((16 : Nat) : Int) - 8) = ((8 : Nat) : Int) := by decide +kernel
  have w2 : wrap64 (((8 : Nat) : Int) - 8) = ((0 : Nat) : Int) := by decide +kernel
  have w3 : wrap64 (((0 : Nat) : Int) - 8) = -8 := by decide +kernel
  have i0 := itoa_is (v / 16777216) (by omega) (by omega)
  have i1 := itoa_is (v / 65536 % 256) (by omega) (by omega)
  have i2 := itoa_is (v / 256 % 256) (by omega) (by omega)
  have i3 := itoa_is (v % 256) (by omega) (by omega)
  have b0' : wrap64 (Go.bits .and .u32 (shr .u32 v 24) 255) = v / 16777216 := b0
  unfold addr_Print.f
  rw [addr_Print.l0, if_pos (by decide), if_pos (by decide), b0', i0, Option.bind_some, if_pos (by decide), w0,
    addr_Print.l0, if_pos (by decide), if_pos (by decide), b1, i1, Option.bind_some, if_pos (by simp), w1,
    addr_Print.l0, if_pos (by decide), if_pos (by decide), b2, i2, Option.bind_some, if_pos (by simp), w2,
    addr_Print.l0, if_pos (by decide), if_pos (by decide), b3, i3, Option.bind_some, if_pos (by simp), w3,
    addr_Print.l0, if_neg (by decide)]
  have s := adr_size v h0 h1
  have hj : Lib.join ((((([] : List ByteArray) ++ [num (v / 16777216)]) ++ [num (v / 65536 % 256)]) ++ [num (v / 256 % 256)]) ++ [num (v % 256)] |>.map (·.data.toList)) (⟨#[46]⟩ : ByteArray).data.toList = (adr v).data.toList := by
    simp only [List.nil_append, List.cons_append, List.map_cons, List.map_nil]
    rw [join4]
    unfold adr
    simp
  have hz : (adr v).data.toList.length = (adr v).size := by simp
  unfold strings_Join.f
  rw [hj, if_pos ⟨by simp, by omega⟩]
  simp
theorem prefix_is (v b : Int) (h0 : 0 ≤ v) (h1 : v < 4294967296) (hn : netOk v b = true) : addr_PrintPrefix.f 5 (v % 4294967296) b = some ((adr v ++ (⟨#[47]⟩ : ByteArray)) ++ num b, 0) := by
  obtain ⟨c, hc, he⟩ := check_is v b h0 h1
  rw [hn] at he
  have hb : 0 ≤ b ∧ b ≤ 32 := by
    unfold netOk at hn
    rw [Bool.and_eq_true] at hn
    exact of_decide_eq_true hn.1
  have s := adr_size v h0 h1
  have s2 := num_size b hb.1 (by omega)
  unfold addr_PrintPrefix.f
  rw [Int.emod_eq_of_lt h0 h1, hc, Option.bind_some, if_pos (by simpa using he), addr_is v h0 h1, Option.bind_some, if_pos (by omega), itoa_is b hb.1 (by omega), Option.bind_some, if_pos (by
    simp only [ByteArray.size_append, show (⟨#[47]⟩ : ByteArray).size = 1 from rfl]; omega)]
end Pure
end Go.Proofs.YtlkllccbcfhekaaDoor.Sift
