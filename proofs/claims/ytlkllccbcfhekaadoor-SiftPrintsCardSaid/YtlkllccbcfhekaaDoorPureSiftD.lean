/- What the form of one term is: sift.shape's answer. -/
import Derived.Test.YtlkllccbcfhekaaDoorSiftx2
import Derived.Test.YtlkllccbcfhekaaDoorSiftx1
import Derived.Test.YtlkllccbcfhekaaDoorPureSiftC
import Derived.Laws.BitsAllLaws
namespace Go.Proofs.YtlkllccbcfhekaaDoor.Sift
open Go.RowKit Go.Proofs.YtlkllccbcfhekaaDoorW.PrintWords
namespace Pure
set_option maxRecDepth 100000

/-- An address under a prefix's length. -/
def netOk (v b : Int) : Bool := decide (0 ≤ b ∧ b ≤ 32) && decide (v % (2 ^ (32 - b).toNat) = 0)
def shp (op f : ByteArray) (v b : Int) (l : List S24) : Bool :=
  if op.toList = [97, 110, 100] ∨ op.toList = [111, 114] then decide (l.length = 2) && decide (f.toList = []) && decide (v = 0) && decide (b = 0)
  else if op.toList = [110, 111, 116] then decide (l.length = 1) && decide (f.toList = []) && decide (v = 0) && decide (b = 0)
  else if op.toList = [61] ∨ op.toList = [60] ∨ op.toList = [62] then decide (l.length = 0) && isNum f && decide (0 ≤ v) && decide (v ≤ 2147483647) && decide (b = 0)
  else if op.toList = [105, 110] then decide (l.length = 0) && (decide (f.toList = [115, 114, 99]) || decide (f.toList = [100, 115, 116])) && decide (0 ≤ v) && decide (v < 4294967296) && netOk v b
  else false
theorem mask_is : ∀ m : Fin 33, shl .u32 4294967295 (wrap64 (32 - ((m.val : Nat) : Int))) = ((4294967296 - 2 ^ (32 - m.val) : Nat) : Int) := by decide +kernel
theorem check_is (v b : Int) (h0 : 0 ≤ v) (h1 : v < 4294967296) : ∃ c, addr_Check.f v b = some c ∧ (c == 0) = netOk v b := by
  by_cases hb : b < 0
  · refine ⟨10, ?_, ?_⟩
    · simp [addr_Check.f, addr_Mask.f, hb]
    · simp [netOk]; omega
  by_cases hb2 : b > 32
  · refine ⟨10, ?_, ?_⟩
    · simp [addr_Check.f, addr_Mask.f, hb, hb2]
    · simp [netOk]; omega
  have hc : ∀ n : Nat, n ≤ 32 → b = (n : Int) → ∃ c, addr_Check.f v b = some c ∧ (c == 0) = netOk v b := by
    intro n hn hbn
    subst hbn
    have hm := mask_is ⟨n, by omega⟩
    simp only at hm
    have hp : 2 ^ (32 - n) ≤ 2 ^ 32 := Nat.pow_le_pow_right (by decide) (by omega)
    have hp1 : 0 < 2 ^ (32 - n) := Nat.pow_pos (by decide)
    have hw : (0 : Int) ≤ wrap64 (32 - (n : Int)) := by rw [w64 (by omega) (by omega)]; omega
    have ha : addr_Mask.f (n : Int) = some (((4294967296 - 2 ^ (32 - n) : Nat) : Int), 0) := by
      unfold addr_Mask.f
      rw [if_neg (by omega), if_neg (by omega), if_pos hw, hm]
    have hx : bits .andNot .u32 v ((4294967296 - 2 ^ (32 - n) : Nat) : Int) = ((v.toNat % 2 ^ (32 - n) : Nat) : Int) := by
      rw [u32_andNot _ _ h0 (by omega) (by omega) (by omega), Int.toNat_natCast, show 4294967295 - (4294967296 - 2 ^ (32 - n)) = 2 ^ (32 - n) - 1 by omega, Nat.and_two_pow_sub_one_eq_mod]
    have hv : v % (2 ^ (32 - (n : Int)).toNat) = ((v.toNat % 2 ^ (32 - n) : Nat) : Int) := by
      rw [show (32 - (n : Int)).toNat = 32 - n by omega, Int.natCast_emod, Int.toNat_of_nonneg h0, Int.natCast_pow]
      rfl
    refine ⟨if bits .andNot .u32 v ((4294967296 - 2 ^ (32 - n) : Nat) : Int) = 0 then 0 else 3, ?_, ?_⟩
    · unfold addr_Check.f
      rw [ha, Option.bind_some, if_pos rfl]
      split <;> rfl
    · rw [hx]
      unfold netOk
      rw [hv, decide_eq_true (by omega : (0 : Int) ≤ (n : Int) ∧ (n : Int) ≤ 32), Bool.true_and]
      split
      · rename_i h; rw [decide_eq_true h]; rfl
      · rename_i h; rw [decide_eq_false h]; rfl
  exact hc b.toNat (by omega) (by omega)
theorem isAddress_is (f : ByteArray) : sift_isAddress.f f = some (decide (f.toList = [115, 114, 99]) || decide (f.toList = [100, 115, 116])) := by
  unfold sift_isAddress.f
  by_cases h : f.toList = [115, 114, 99]
  · rw [if_pos h, decide_eq_true h]; rfl
  · rw [if_neg h, decide_eq_false h, Bool.false_or]
    rw [Bool.beq_eq_decide_eq]
theorem shape_is (op f : ByteArray) (v b : Int) (l : List S24) : ∃ k, sift_shape.f k op f v b l = some (shp op f v b l) := by
  obtain ⟨k0, hk0⟩ := isNumber_is f
  refine ⟨k0 + 2, ?_⟩
  unfold sift_shape.f
  simp only [sift_shape.j0, sift_shape.j1, hk0, isAddress_is, Option.bind_some]
  unfold shp
  generalize isNum f = nf
  generalize f.toList = fl at *
  generalize op.toList = o at *
  have hl2 : ((l.length : Int) = 2) = (l.length = 2) := propext (by omega)
  have hl1 : ((l.length : Int) = 1) = (l.length = 1) := propext (by omega)
  have hl0 : ((l.length : Int) = 0) = (l.length = 0) := propext (by omega)
  have hchk : 0 ≤ v → v < 4294967296 → ((addr_Check.f (v % 4294967296) b).bind fun t => some (t == 0)) = some (netOk v b) := by
    intro h0 h1
    obtain ⟨c, hc, he⟩ := check_is v b h0 h1
    rw [Int.emod_eq_of_lt h0 h1, hc, Option.bind_some, he]
  generalize ((addr_Check.f (v % 4294967296) b).bind fun t => some (t == 0)) = X at *
  simp only [hl2, hl1, hl0, Bool.beq_eq_decide_eq]
  by_cases h1 : o = [97, 110, 100]
  · subst h1; simp; repeat' split
    all_goals simp_all
    all_goals omega
  by_cases h2 : o = [111, 114]
  · subst h2; simp; repeat' split
    all_goals simp_all
    all_goals omega
  by_cases h3 : o = [110, 111, 116]
  · subst h3; simp; repeat' split
    all_goals simp_all
    all_goals omega
  by_cases h4 : o = [61]
  · subst h4; simp; repeat' split
    all_goals simp_all
    all_goals omega
  by_cases h5 : o = [60]
  · subst h5; simp; repeat' split
    all_goals simp_all
    all_goals omega
  by_cases h6 : o = [62]
  · subst h6; simp; repeat' split
    all_goals simp_all
    all_goals omega
  by_cases h7 : o = [105, 110]
  · subst h7; simp; repeat' split
    all_goals simp_all
    all_goals omega
  simp [h1, h2, h3, h4, h5, h6, h7]
end Pure
end Go.Proofs.YtlkllccbcfhekaaDoor.Sift
