/- Printed by a program of this seat's session: what the Go functions compute, and that they do. -/
import Derived.Test.YtlkllccbcfhekaaDoorSiftx0
import Derived.Test.YtlkllccbcfhekaaDoorSiftx8
namespace Go.Proofs.YtlkllccbcfhekaaDoor.Sift
open Go.RowKit Go.Proofs.YtlkllccbcfhekaaDoorW.PrintWords Go.Proofs.YtlkllccbcfhekaaDoorW.PrintLast Go.Proofs.YtlkllccbcfhekaaDoorW.PrintMore
attribute [local go_sem] max2_int min2_int max_two min_two max_three min_three max_four min_four   -- for this text's walks alone
set_option linter.unusedVariables false
set_option linter.unusedSimpArgs false
set_option maxRecDepth 100000

/-! ### patchbayref4_SiftString: function 8 -/
def patchbayref4_SiftString.f : Nat → ByteArray → ByteArray → Int → Int → List (S24) → Int → Option (ByteArray)
  | 0, _, _, _, _, _, _ => none
  | k + 1, a0_0, a0_1, a0_2, a0_3, l0_4, a1 => if a0_0.toList = ([111, 114] : List UInt8) then (if 0 < (l0_4.length : Int) then ((patchbayref4_SiftString.f k ((rd_T24 l0_4 0).f0) ((rd_T24 l0_4 0).f1) ((rd_T24 l0_4 0).f2) ((rd_T24 l0_4 0).f3) ((rd_T24 l0_4 0).f4) 0).bind fun t187 => (if t187.size + 4 ≤ 9223372036854775807 then (if 1 < (l0_4.length : Int) then ((patchbayref4_SiftString.f k ((rd_T24 l0_4 1).f0) ((rd_T24 l0_4 1).f1) ((rd_T24 l0_4 1).f2) ((rd_T24 l0_4 1).f3) ((rd_T24 l0_4 1).f4) 1).bind fun t189 => (if (t187 ++ (⟨#[32, 111, 114, 32]⟩ : ByteArray)).size + t189.size ≤ 9223372036854775807 then (if a1 > 0 then (if 1 + ((t187 ++ (⟨#[32, 111, 114, 32]⟩ : ByteArray)) ++ t189).size ≤ 9223372036854775807 then (if ((⟨#[40]⟩ : ByteArray) ++ ((t187 ++ (⟨#[32, 111, 114, 32]⟩ : ByteArray)) ++ t189)).size + 1 ≤ 9223372036854775807 then (some (((⟨#[40]⟩ : ByteArray) ++ ((t187 ++ (⟨#[32, 111, 114, 32]⟩ : ByteArray)) ++ t189)) ++ (⟨#[41]⟩ : ByteArray))) else (none)) else (none)) else (some ((t187 ++ (⟨#[32, 111, 114, 32]⟩ : ByteArray)) ++ t189))) else (none))) else (none)) else (none))) else (none)) else (if a0_0.toList = ([97, 110, 100] : List UInt8) then (if 0 < (l0_4.length : Int) then ((patchbayref4_SiftString.f k ((rd_T24 l0_4 0).f0) ((rd_T24 l0_4 0).f1) ((rd_T24 l0_4 0).f2) ((rd_T24 l0_4 0).f3) ((rd_T24 l0_4 0).f4) 1).bind fun t191 => (if t191.size + 5 ≤ 9223372036854775807 then (if 1 < (l0_4.length : Int) then ((patchbayref4_SiftString.f k ((rd_T24 l0_4 1).f0) ((rd_T24 l0_4 1).f1) ((rd_T24 l0_4 1).f2) ((rd_T24 l0_4 1).f3) ((rd_T24 l0_4 1).f4) 2).bind fun t193 => (if (t191 ++ (⟨#[32, 97, 110, 100, 32]⟩ : ByteArray)).size + t193.size ≤ 9223372036854775807 then (if a1 > 1 then (if 1 + ((t191 ++ (⟨#[32, 97, 110, 100, 32]⟩ : ByteArray)) ++ t193).size ≤ 9223372036854775807 then (if ((⟨#[40]⟩ : ByteArray) ++ ((t191 ++ (⟨#[32, 97, 110, 100, 32]⟩ : ByteArray)) ++ t193)).size + 1 ≤ 9223372036854775807 then (some (((⟨#[40]⟩ : ByteArray) ++ ((t191 ++ (⟨#[32, 97, 110, 100, 32]⟩ : ByteArray)) ++ t193)) ++ (⟨#[41]⟩ : ByteArray))) else (none)) else (none)) else (some ((t191 ++ (⟨#[32, 97, 110, 100, 32]⟩ : ByteArray)) ++ t193))) else (none))) else (none)) else (none))) else (none)) else (if a0_0.toList = ([110, 111, 116] : List UInt8) then (if 0 < (l0_4.length : Int) then ((patchbayref4_SiftString.f k ((rd_T24 l0_4 0).f0) ((rd_T24 l0_4 0).f1) ((rd_T24 l0_4 0).f2) ((rd_T24 l0_4 0).f3) ((rd_T24 l0_4 0).f4) 2).bind fun t195 => (if 4 + t195.size ≤ 9223372036854775807 then (some ((⟨#[110, 111, 116, 32]⟩ : ByteArray) ++ t195)) else (none))) else (none)) else (if a0_0.toList = ([105, 110] : List UInt8) then ((patchbayref4_Digits.f k (wrap64 (Int.tdiv a0_2 16777216))).bind fun t196 => (if t196.size + 1 ≤ 9223372036854775807 then ((patchbayref4_Digits.f k (Int.tmod (wrap64 (Int.tdiv a0_2 65536)) 256)).bind fun t197 => (if (t196 ++ (⟨#[46]⟩ : ByteArray)).size + t197.size ≤ 9223372036854775807 then (if ((t196 ++ (⟨#[46]⟩ : ByteArray)) ++ t197).size + 1 ≤ 9223372036854775807 then ((patchbayref4_Digits.f k (Int.tmod (wrap64 (Int.tdiv a0_2 256)) 256)).bind fun t198 => (if (((t196 ++ (⟨#[46]⟩ : ByteArray)) ++ t197) ++ (⟨#[46]⟩ : ByteArray)).size + t198.size ≤ 9223372036854775807 then (if ((((t196 ++ (⟨#[46]⟩ : ByteArray)) ++ t197) ++ (⟨#[46]⟩ : ByteArray)) ++ t198).size + 1 ≤ 9223372036854775807 then ((patchbayref4_Digits.f k (Int.tmod a0_2 256)).bind fun t199 => (if (((((t196 ++ (⟨#[46]⟩ : ByteArray)) ++ t197) ++ (⟨#[46]⟩ : ByteArray)) ++ t198) ++ (⟨#[46]⟩ : ByteArray)).size + t199.size ≤ 9223372036854775807 then (if a0_1.size + 4 ≤ 9223372036854775807 then (if (a0_1 ++ (⟨#[32, 105, 110, 32]⟩ : ByteArray)).size + ((((((t196 ++ (⟨#[46]⟩ : ByteArray)) ++ t197) ++ (⟨#[46]⟩ : ByteArray)) ++ t198) ++ (⟨#[46]⟩ : ByteArray)) ++ t199).size ≤ 9223372036854775807 then (if ((a0_1 ++ (⟨#[32, 105, 110, 32]⟩ : ByteArray)) ++ ((((((t196 ++ (⟨#[46]⟩ : ByteArray)) ++ t197) ++ (⟨#[46]⟩ : ByteArray)) ++ t198) ++ (⟨#[46]⟩ : ByteArray)) ++ t199)).size + 1 ≤ 9223372036854775807 then ((patchbayref4_Digits.f k a0_3).bind fun t200 => (if (((a0_1 ++ (⟨#[32, 105, 110, 32]⟩ : ByteArray)) ++ ((((((t196 ++ (⟨#[46]⟩ : ByteArray)) ++ t197) ++ (⟨#[46]⟩ : ByteArray)) ++ t198) ++ (⟨#[46]⟩ : ByteArray)) ++ t199)) ++ (⟨#[47]⟩ : ByteArray)).size + t200.size ≤ 9223372036854775807 then (some ((((a0_1 ++ (⟨#[32, 105, 110, 32]⟩ : ByteArray)) ++ ((((((t196 ++ (⟨#[46]⟩ : ByteArray)) ++ t197) ++ (⟨#[46]⟩ : ByteArray)) ++ t198) ++ (⟨#[46]⟩ : ByteArray)) ++ t199)) ++ (⟨#[47]⟩ : ByteArray)) ++ t200)) else (none))) else (none)) else (none)) else (none)) else (none))) else (none)) else (none))) else (none)) else (none))) else (none))) else (if a0_1.size + 1 ≤ 9223372036854775807 then (if (a0_1 ++ (⟨#[32]⟩ : ByteArray)).size + a0_0.size ≤ 9223372036854775807 then (if ((a0_1 ++ (⟨#[32]⟩ : ByteArray)) ++ a0_0).size + 1 ≤ 9223372036854775807 then ((patchbayref4_Digits.f k a0_2).bind fun t201 => (if (((a0_1 ++ (⟨#[32]⟩ : ByteArray)) ++ a0_0) ++ (⟨#[32]⟩ : ByteArray)).size + t201.size ≤ 9223372036854775807 then (some ((((a0_1 ++ (⟨#[32]⟩ : ByteArray)) ++ a0_0) ++ (⟨#[32]⟩ : ByteArray)) ++ t201)) else (none))) else (none)) else (none)) else (none)))))
theorem patchbayref4_SiftString.mono_l : ∀ k, (∀ y0 y1 y2 y3 y4 y5, LeO (patchbayref4_SiftString.f k y0 y1 y2 y3 y4 y5) (patchbayref4_SiftString.f (k + 1) y0 y1 y2 y3 y4 y5))
  | 0 => fun _ _ _ _ _ _ r h => by simp [patchbayref4_SiftString.f] at h
  | k + 1 => by
    have ih0 := patchbayref4_SiftString.mono_l k
    · intro y0 y1 y2 y3 y4 y5
      unfold patchbayref4_SiftString.f
      repeat' first
      | (with_reducible exact ih0 _ _ _ _ _ _)
      | (with_reducible exact patchbayref4_Digits.mono _ _)
      | (with_reducible exact LeO.refl _)
      | (with_reducible exact LeO.none _)
      | (with_reducible refine LeO.ite ?_ ?_)
      | (with_reducible refine LeO.bind ?_ (fun _ => ?_))
      | exact ih0 _ _ _ _ _ _
      | exact patchbayref4_Digits.mono _ _
      | exact LeO.none _
      | refine LeO.ite ?_ ?_
      | refine LeO.bind ?_ (fun _ => ?_)
theorem patchbayref4_SiftString.mono : ∀ a0 a1 a2 a3 a4 a5 k, LeO (patchbayref4_SiftString.f k a0 a1 a2 a3 a4 a5) (patchbayref4_SiftString.f (k + 1) a0 a1 a2 a3 a4 a5) := by
  intro a0 a1 a2 a3 a4 a5 k
  have ih0 := patchbayref4_SiftString.mono_l k
  exact ih0 a0 a1 a2 a3 a4 a5
def patchbayref4_SiftString.T4 : Bool × List (List Nat × List Nat) := (true, [([], []), ([0], [0]), ([1], [1]), ([2], [2]), ([3], [3]), ([4], [4]), ([], []), ([6], [6]), ([7], [7]), ([8], [8]), ([9, 4], [9]), ([5, 10], [5, 10]), ([11, 10, 0, 1, 2, 3, 4, 5, 6, 7, 8, 9, 10, 11], [11])])
def patchbayref4_SiftString.B4 : List Nat := [0, 1, 3, 7, 15, 31, 0, 64, 192, 448, 991, 2047, 4095]
theorem patchbayref4_SiftString.tab4 : rtab .any (opsOf Tryd.f8 4) = patchbayref4_SiftString.T4 := by kernel_rfl
theorem patchbayref4_SiftString.bits4 : waitsOk patchbayref4_SiftString.T4.2 patchbayref4_SiftString.B4 = true := by kernel_rfl
def patchbayref4_SiftString.T9 : Bool × List (List Nat × List Nat) := (true, [([], []), ([0], [0]), ([1], [1]), ([2], [2]), ([3], [3]), ([4], [4]), ([], []), ([6], [6]), ([7], [7]), ([8], [8]), ([9, 4], [9]), ([5, 10], [5, 10]), ([11, 10, 0, 1, 2, 3, 4, 5, 6, 7, 8, 9, 10, 11], [11])])
def patchbayref4_SiftString.B9 : List Nat := [0, 1, 3, 7, 15, 31, 0, 64, 192, 448, 991, 2047, 4095]
theorem patchbayref4_SiftString.tab9 : rtab .any (opsOf Tryd.f8 9) = patchbayref4_SiftString.T9 := by kernel_rfl
theorem patchbayref4_SiftString.bits9 : waitsOk patchbayref4_SiftString.T9.2 patchbayref4_SiftString.B9 = true := by kernel_rfl
def patchbayref4_SiftString.T18 : Bool × List (List Nat × List Nat) := (true, [([], []), ([0], [0]), ([1], [1]), ([], []), ([2, 3], [2, 3]), ([4], [4]), ([], []), ([6], [6]), ([7], [7]), ([5, 8], [5, 8]), ([9, 8, 0, 1, 2, 3, 4, 5, 6, 7, 8, 9], [9])])
def patchbayref4_SiftString.B18 : List Nat := [0, 1, 3, 0, 15, 31, 0, 64, 192, 511, 1023]
theorem patchbayref4_SiftString.tab18 : rtab .any (opsOf Tryd.f8 18) = patchbayref4_SiftString.T18 := by kernel_rfl
theorem patchbayref4_SiftString.bits18 : waitsOk patchbayref4_SiftString.T18.2 patchbayref4_SiftString.B18 = true := by kernel_rfl
def patchbayref4_SiftString.T19 : Bool × List (List Nat × List Nat) := (true, [([], []), ([0], [0]), ([1], [1]), ([], []), ([3], [3]), ([2, 4], [2, 4]), ([5], [5]), ([], []), ([7], [7]), ([8], [8]), ([6, 9], [6, 9]), ([10, 9, 0, 1, 2, 3, 4, 5, 6, 7, 8, 9, 10], [10])])
def patchbayref4_SiftString.B19 : List Nat := [0, 1, 3, 0, 8, 31, 63, 0, 128, 384, 1023, 2047]
theorem patchbayref4_SiftString.tab19 : rtab .any (opsOf Tryd.f8 19) = patchbayref4_SiftString.T19 := by kernel_rfl
theorem patchbayref4_SiftString.bits19 : waitsOk patchbayref4_SiftString.T19.2 patchbayref4_SiftString.B19 = true := by kernel_rfl
set_option maxHeartbeats 8000000 in
set_option maxRecDepth 100000 in
theorem patchbayref4_SiftString.arm1 (k : Nat) (ih : ∀ (m_ : Nat), m_ < k + 1 → ∀ (a0_0 : ByteArray) (a0_1 : ByteArray) (a0_2 : Int) (a0_3 : Int) (A0_4 : Option Addr) (c0_4 : Nat) (l0_4 : List (S24)) (a1 : Int) (r : ByteArray) (w : World) (hr0_4 : Kd.C k24 w A0_4 l0_4.length l0_4) (hc0_4 : l0_4.length ≤ c0_4) (h : patchbayref4_SiftString.f m_ a0_0 a0_1 a0_2 a0_3 l0_4 a1 = some r), Calls Tryd.prog 8 #[.agg #[.string a0_0, .string a0_1, .int .i64 a0_2, .int .i64 a0_3, .slice A0_4 l0_4.length c0_4], .int .i64 a1] w fun e w' => e = .returned (.string r) ∧ Below w.heap.size w w') : ∀ (a0_0 : ByteArray) (a0_1 : ByteArray) (a0_2 : Int) (a0_3 : Int) (A0_4 : Option Addr) (c0_4 : Nat) (l0_4 : List (S24)) (a1 : Int) (r : ByteArray) (w : World) (hr0_4 : Kd.C k24 w A0_4 l0_4.length l0_4) (hc0_4 : l0_4.length ≤ c0_4) (h : patchbayref4_SiftString.f (k + 1) a0_0 a0_1 a0_2 a0_3 l0_4 a1 = some r) (c3 : a0_0.toList = ([111, 114] : List UInt8)) (c4 : 0 < (l0_4.length : Int)),
    Calls Tryd.prog 8 #[.agg #[.string a0_0, .string a0_1, .int .i64 a0_2, .int .i64 a0_3, .slice A0_4 l0_4.length c0_4], .int .i64 a1] w fun e w' => e = .returned (.string r) ∧ Below w.heap.size w w' := by
  intro a0_0 a0_1 a0_2 a0_3 A0_4 c0_4 l0_4 a1 r w hr0_4 hc0_4 h c3 c4
  simp only [patchbayref4_SiftString.f] at h
  have hu24 := Tryd.underlying24
  have HR0_4 := Aside0.mk hr0_4
  have HC0_4 := Aside0.mk hc0_4
  clear hr0_4 hc0_4
  have HB := Aside0.mk (Below.refl w.heap.size w)
  have H : (if a0_0.toList = ([111, 114] : List UInt8) then (if 0 < (l0_4.length : Int) then ((patchbayref4_SiftString.f k ((rd_T24 l0_4 0).f0) ((rd_T24 l0_4 0).f1) ((rd_T24 l0_4 0).f2) ((rd_T24 l0_4 0).f3) ((rd_T24 l0_4 0).f4) 0).bind fun t187 => (if t187.size + 4 ≤ 9223372036854775807 then (if 1 < (l0_4.length : Int) then ((patchbayref4_SiftString.f k ((rd_T24 l0_4 1).f0) ((rd_T24 l0_4 1).f1) ((rd_T24 l0_4 1).f2) ((rd_T24 l0_4 1).f3) ((rd_T24 l0_4 1).f4) 1).bind fun t189 => (if (t187 ++ (⟨#[32, 111, 114, 32]⟩ : ByteArray)).size + t189.size ≤ 9223372036854775807 then (if a1 > 0 then (if 1 + ((t187 ++ (⟨#[32, 111, 114, 32]⟩ : ByteArray)) ++ t189).size ≤ 9223372036854775807 then (if ((⟨#[40]⟩ : ByteArray) ++ ((t187 ++ (⟨#[32, 111, 114, 32]⟩ : ByteArray)) ++ t189)).size + 1 ≤ 9223372036854775807 then (some (((⟨#[40]⟩ : ByteArray) ++ ((t187 ++ (⟨#[32, 111, 114, 32]⟩ : ByteArray)) ++ t189)) ++ (⟨#[41]⟩ : ByteArray))) else (none)) else (none)) else (some ((t187 ++ (⟨#[32, 111, 114, 32]⟩ : ByteArray)) ++ t189))) else (none))) else (none)) else (none))) else (none)) else (if a0_0.toList = ([97, 110, 100] : List UInt8) then (if 0 < (l0_4.length : Int) then ((patchbayref4_SiftString.f k ((rd_T24 l0_4 0).f0) ((rd_T24 l0_4 0).f1) ((rd_T24 l0_4 0).f2) ((rd_T24 l0_4 0).f3) ((rd_T24 l0_4 0).f4) 1).bind fun t191 => (if t191.size + 5 ≤ 9223372036854775807 then (if 1 < (l0_4.length : Int) then ((patchbayref4_SiftString.f k ((rd_T24 l0_4 1).f0) ((rd_T24 l0_4 1).f1) ((rd_T24 l0_4 1).f2) ((rd_T24 l0_4 1).f3) ((rd_T24 l0_4 1).f4) 2).bind fun t193 => (if (t191 ++ (⟨#[32, 97, 110, 100, 32]⟩ : ByteArray)).size + t193.size ≤ 9223372036854775807 then (if a1 > 1 then (if 1 + ((t191 ++ (⟨#[32, 97, 110, 100, 32]⟩ : ByteArray)) ++ t193).size ≤ 9223372036854775807 then (if ((⟨#[40]⟩ : ByteArray) ++ ((t191 ++ (⟨#[32, 97, 110, 100, 32]⟩ : ByteArray)) ++ t193)).size + 1 ≤ 9223372036854775807 then (some (((⟨#[40]⟩ : ByteArray) ++ ((t191 ++ (⟨#[32, 97, 110, 100, 32]⟩ : ByteArray)) ++ t193)) ++ (⟨#[41]⟩ : ByteArray))) else (none)) else (none)) else (some ((t191 ++ (⟨#[32, 97, 110, 100, 32]⟩ : ByteArray)) ++ t193))) else (none))) else (none)) else (none))) else (none)) else (if a0_0.toList = ([110, 111, 116] : List UInt8) then (if 0 < (l0_4.length : Int) then ((patchbayref4_SiftString.f k ((rd_T24 l0_4 0).f0) ((rd_T24 l0_4 0).f1) ((rd_T24 l0_4 0).f2) ((rd_T24 l0_4 0).f3) ((rd_T24 l0_4 0).f4) 2).bind fun t195 => (if 4 + t195.size ≤ 9223372036854775807 then (some ((⟨#[110, 111, 116, 32]⟩ : ByteArray) ++ t195)) else (none))) else (none)) else (if a0_0.toList = ([105, 110] : List UInt8) then ((patchbayref4_Digits.f k (wrap64 (Int.tdiv a0_2 16777216))).bind fun t196 => (if t196.size + 1 ≤ 9223372036854775807 then ((patchbayref4_Digits.f k (Int.tmod (wrap64 (Int.tdiv a0_2 65536)) 256)).bind fun t197 => (if (t196 ++ (⟨#[46]⟩ : ByteArray)).size + t197.size ≤ 9223372036854775807 then (if ((t196 ++ (⟨#[46]⟩ : ByteArray)) ++ t197).size + 1 ≤ 9223372036854775807 then ((patchbayref4_Digits.f k (Int.tmod (wrap64 (Int.tdiv a0_2 256)) 256)).bind fun t198 => (if (((t196 ++ (⟨#[46]⟩ : ByteArray)) ++ t197) ++ (⟨#[46]⟩ : ByteArray)).size + t198.size ≤ 9223372036854775807 then (if ((((t196 ++ (⟨#[46]⟩ : ByteArray)) ++ t197) ++ (⟨#[46]⟩ : ByteArray)) ++ t198).size + 1 ≤ 9223372036854775807 then ((patchbayref4_Digits.f k (Int.tmod a0_2 256)).bind fun t199 => (if (((((t196 ++ (⟨#[46]⟩ : ByteArray)) ++ t197) ++ (⟨#[46]⟩ : ByteArray)) ++ t198) ++ (⟨#[46]⟩ : ByteArray)).size + t199.size ≤ 9223372036854775807 then (if a0_1.size + 4 ≤ 9223372036854775807 then (if (a0_1 ++ (⟨#[32, 105, 110, 32]⟩ : ByteArray)).size + ((((((t196 ++ (⟨#[46]⟩ : ByteArray)) ++ t197) ++ (⟨#[46]⟩ : ByteArray)) ++ t198) ++ (⟨#[46]⟩ : ByteArray)) ++ t199).size ≤ 9223372036854775807 then (if ((a0_1 ++ (⟨#[32, 105, 110, 32]⟩ : ByteArray)) ++ ((((((t196 ++ (⟨#[46]⟩ : ByteArray)) ++ t197) ++ (⟨#[46]⟩ : ByteArray)) ++ t198) ++ (⟨#[46]⟩ : ByteArray)) ++ t199)).size + 1 ≤ 9223372036854775807 then ((patchbayref4_Digits.f k a0_3).bind fun t200 => (if (((a0_1 ++ (⟨#[32, 105, 110, 32]⟩ : ByteArray)) ++ ((((((t196 ++ (⟨#[46]⟩ : ByteArray)) ++ t197) ++ (⟨#[46]⟩ : ByteArray)) ++ t198) ++ (⟨#[46]⟩ : ByteArray)) ++ t199)) ++ (⟨#[47]⟩ : ByteArray)).size + t200.size ≤ 9223372036854775807 then (some ((((a0_1 ++ (⟨#[32, 105, 110, 32]⟩ : ByteArray)) ++ ((((((t196 ++ (⟨#[46]⟩ : ByteArray)) ++ t197) ++ (⟨#[46]⟩ : ByteArray)) ++ t198) ++ (⟨#[46]⟩ : ByteArray)) ++ t199)) ++ (⟨#[47]⟩ : ByteArray)) ++ t200)) else (none))) else (none)) else (none)) else (none)) else (none))) else (none)) else (none))) else (none)) else (none))) else (none))) else (if a0_1.size + 1 ≤ 9223372036854775807 then (if (a0_1 ++ (⟨#[32]⟩ : ByteArray)).size + a0_0.size ≤ 9223372036854775807 then (if ((a0_1 ++ (⟨#[32]⟩ : ByteArray)) ++ a0_0).size + 1 ≤ 9223372036854775807 then ((patchbayref4_Digits.f k a0_2).bind fun t201 => (if (((a0_1 ++ (⟨#[32]⟩ : ByteArray)) ++ a0_0) ++ (⟨#[32]⟩ : ByteArray)).size + t201.size ≤ 9223372036854775807 then (some ((((a0_1 ++ (⟨#[32]⟩ : ByteArray)) ++ a0_0) ++ (⟨#[32]⟩ : ByteArray)) ++ t201)) else (none))) else (none)) else (none)) else (none)))))) = some r := h
  clear h
  rw [if_pos c3] at H
  have c3b0 : (a0_0.toList == ([111, 114] : List UInt8)) = true := beq_iff_eq.mpr c3
  have c3b1 : (a0_0.toList != ([111, 114] : List UInt8)) = false := bne_eq_false_iff_eq.mpr c3
  clear c3
  rw [if_pos c4] at H
  have c4b0 : decide (0 < (l0_4.length : Int)) = true := decide_eq_true c4
  have c4b1 : decide (0 < l0_4.length) = true := decide_eq_true (by omega)
  clear c4
  replace H := Option.bind_eq_some_iff.mp H
  obtain ⟨t187, A50, H⟩ := H
  replace H : (if t187.size + 4 ≤ 9223372036854775807 then (if 1 < (l0_4.length : Int) then ((patchbayref4_SiftString.f k ((rd_T24 l0_4 1).f0) ((rd_T24 l0_4 1).f1) ((rd_T24 l0_4 1).f2) ((rd_T24 l0_4 1).f3) ((rd_T24 l0_4 1).f4) 1).bind fun t189 => (if (t187 ++ (⟨#[32, 111, 114, 32]⟩ : ByteArray)).size + t189.size ≤ 9223372036854775807 then (if a1 > 0 then (if 1 + ((t187 ++ (⟨#[32, 111, 114, 32]⟩ : ByteArray)) ++ t189).size ≤ 9223372036854775807 then (if ((⟨#[40]⟩ : ByteArray) ++ ((t187 ++ (⟨#[32, 111, 114, 32]⟩ : ByteArray)) ++ t189)).size + 1 ≤ 9223372036854775807 then (some (((⟨#[40]⟩ : ByteArray) ++ ((t187 ++ (⟨#[32, 111, 114, 32]⟩ : ByteArray)) ++ t189)) ++ (⟨#[41]⟩ : ByteArray))) else (none)) else (none)) else (some ((t187 ++ (⟨#[32, 111, 114, 32]⟩ : ByteArray)) ++ t189))) else (none))) else (none)) else (none)) = some r := H
  have A5 := Aside0.mk A50
  clear A50
  by_cases c6 : t187.size + 4 ≤ 9223372036854775807
  · rw [if_pos c6] at H
    have c6b0 := eq_true c6
    have c6b1 : decide (t187.size + 4 ≤ 9223372036854775807) = true := decide_eq_true c6
    try have c6b2 : (9223372036854775807 < t187.size + 4) = False := eq_false (Nat.not_lt.2 c6)
    by_cases c7 : 1 < (l0_4.length : Int)
    · rw [if_pos c7] at H
      have c7b0 : decide (1 < (l0_4.length : Int)) = true := decide_eq_true c7
      have c7b1 : decide (1 < l0_4.length) = true := decide_eq_true (by omega)
      clear c7
      replace H := Option.bind_eq_some_iff.mp H
      obtain ⟨t189, A80, H⟩ := H
      replace H : (if (t187 ++ (⟨#[32, 111, 114, 32]⟩ : ByteArray)).size + t189.size ≤ 9223372036854775807 then (if a1 > 0 then (if 1 + ((t187 ++ (⟨#[32, 111, 114, 32]⟩ : ByteArray)) ++ t189).size ≤ 9223372036854775807 then (if ((⟨#[40]⟩ : ByteArray) ++ ((t187 ++ (⟨#[32, 111, 114, 32]⟩ : ByteArray)) ++ t189)).size + 1 ≤ 9223372036854775807 then (some (((⟨#[40]⟩ : ByteArray) ++ ((t187 ++ (⟨#[32, 111, 114, 32]⟩ : ByteArray)) ++ t189)) ++ (⟨#[41]⟩ : ByteArray))) else (none)) else (none)) else (some ((t187 ++ (⟨#[32, 111, 114, 32]⟩ : ByteArray)) ++ t189))) else (none)) = some r := H
      have A8 := Aside0.mk A80
      clear A80
      by_cases c9 : (t187 ++ (⟨#[32, 111, 114, 32]⟩ : ByteArray)).size + t189.size ≤ 9223372036854775807
      · rw [if_pos c9] at H
        have c9b0 := eq_true c9
        have c9b1 : decide ((t187 ++ (⟨#[32, 111, 114, 32]⟩ : ByteArray)).size + t189.size ≤ 9223372036854775807) = true := decide_eq_true c9
        try have c9b2 : (9223372036854775807 < (t187 ++ (⟨#[32, 111, 114, 32]⟩ : ByteArray)).size + t189.size) = False := eq_false (Nat.not_lt.2 c9)
        try (have c9b4 := c9b2; simp only [ByteArray.size_append, show (⟨#[32, 111, 114, 32]⟩ : ByteArray).size = 4 from rfl] at c9b4)
        try (have c9b5 := c9b2; simp only [ByteArray.size_append, show (⟨#[32, 111, 114, 32]⟩ : ByteArray).size = 4 from rfl, Nat.add_assoc, Nat.reduceAdd] at c9b5)
        try (have c9b3 := c9b2; simp only [ByteArray.size_append] at c9b3)
        by_cases c10 : a1 > 0
        · rw [if_pos c10] at H
          have c10b0 : decide (0 < a1) = true := decide_eq_true c10
          clear c10
          by_cases c11 : 1 + ((t187 ++ (⟨#[32, 111, 114, 32]⟩ : ByteArray)) ++ t189).size ≤ 9223372036854775807
          · rw [if_pos c11] at H
            have c11b0 := eq_true c11
            have c11b1 : decide (1 + ((t187 ++ (⟨#[32, 111, 114, 32]⟩ : ByteArray)) ++ t189).size ≤ 9223372036854775807) = true := decide_eq_true c11
            try have c11b2 : (9223372036854775807 < 1 + ((t187 ++ (⟨#[32, 111, 114, 32]⟩ : ByteArray)) ++ t189).size) = False := eq_false (Nat.not_lt.2 c11)
            try (have c11b4 := c11b2; simp only [ByteArray.size_append, show (⟨#[32, 111, 114, 32]⟩ : ByteArray).size = 4 from rfl] at c11b4)
            try (have c11b5 := c11b2; simp only [ByteArray.size_append, show (⟨#[32, 111, 114, 32]⟩ : ByteArray).size = 4 from rfl, Nat.add_assoc, Nat.reduceAdd] at c11b5)
            try (have c11b3 := c11b2; simp only [ByteArray.size_append] at c11b3)
            by_cases c12 : ((⟨#[40]⟩ : ByteArray) ++ ((t187 ++ (⟨#[32, 111, 114, 32]⟩ : ByteArray)) ++ t189)).size + 1 ≤ 9223372036854775807
            · rw [if_pos c12] at H
              have c12b0 := eq_true c12
              have c12b1 : decide (((⟨#[40]⟩ : ByteArray) ++ ((t187 ++ (⟨#[32, 111, 114, 32]⟩ : ByteArray)) ++ t189)).size + 1 ≤ 9223372036854775807) = true := decide_eq_true c12
              try have c12b2 : (9223372036854775807 < ((⟨#[40]⟩ : ByteArray) ++ ((t187 ++ (⟨#[32, 111, 114, 32]⟩ : ByteArray)) ++ t189)).size + 1) = False := eq_false (Nat.not_lt.2 c12)
              try (have c12b4 := c12b2; simp only [ByteArray.size_append, show (⟨#[32, 111, 114, 32]⟩ : ByteArray).size = 4 from rfl, show (⟨#[40]⟩ : ByteArray).size = 1 from rfl] at c12b4)
              try (have c12b5 := c12b2; simp only [ByteArray.size_append, show (⟨#[32, 111, 114, 32]⟩ : ByteArray).size = 4 from rfl, show (⟨#[40]⟩ : ByteArray).size = 1 from rfl, Nat.add_assoc, Nat.reduceAdd] at c12b5)
              try (have c12b3 := c12b2; simp only [ByteArray.size_append] at c12b3)
              obtain rfl := Option.some.inj H
              go_enter Tryd.func8, Tryd.ntmps8
              try go_wp2_with (first | ((with_reducible refine gate_dst (N := 2) rfl ?_); refine box_event ?hg (N := 2) ?hd (cs := #[.string a0_0, .string a0_1, .int .i64 a0_2, .int .i64 a0_3, .slice A0_4 l0_4.length c0_4]) (t := 24) ?hr ?_; (case hd => rfl); (case hg => rfl); (case hr => first | (go_simp; done) | (go_simp; rfl)); intro gb185 hg w13 hbox hb; have n0_ := Aside0.mk (below_step (by repeat (first | (with_reducible first | exact HB.out | apply below_alloc | apply pw_below_drewN | apply below_drew1) | exact HB.out)) hb); have n1_ := Aside0.mk (hbox); have n2_ := Aside0.mk ((by rw [hg]; exact (below_size (by repeat (first | (with_reducible first | exact HB.out | apply below_alloc | apply pw_below_drewN | apply below_drew1) | exact HB.out))) : w.heap.size ≤ gb185)); have n3_ := Aside0.mk ((by rw [hg]; exact (below_size (by repeat (first | (with_reducible first | exact HB.out | apply below_alloc | apply pw_below_drewN | apply below_drew1) | exact HB.out))) : w.heap.size ≤ gb185)); clear HB; have HB := n0_; have BK185 := n1_; have GW185 := n2_; have GE185 := n3_; clear n0_ n1_ n2_ n3_; clear hb hbox hg; have hcz14_0 : w13.cell? ⟨gb185, 0, none⟩ = some (.string a0_0) := (blk_cell BK185.out 0).trans rfl; have hcz14_1 : w13.cell? ⟨gb185, 1, none⟩ = some (.string a0_1) := (blk_cell BK185.out 1).trans rfl; have hcz14_2 : w13.cell? ⟨gb185, 2, none⟩ = some (.int .i64 a0_2) := (blk_cell BK185.out 2).trans rfl; have hcz14_3 : w13.cell? ⟨gb185, 3, none⟩ = some (.int .i64 a0_3) := (blk_cell BK185.out 3).trans rfl; have hcz14_4 : w13.cell? ⟨gb185, 4, none⟩ = some (.slice A0_4 l0_4.length c0_4) := (blk_cell BK185.out 4).trans rfl; have hfz14_0 := blk_frozen BK185.out 0; have hfz14_1 := blk_frozen BK185.out 1; have hfz14_2 := blk_frozen BK185.out 2; have hfz14_3 := blk_frozen BK185.out 3; have hfz14_4 := blk_frozen BK185.out 4))
              have n0_ := Aside0.mk (blk_drew BK185.out)
              have n1_ := Aside0.mk (below_drew1 HB.out)
              clear BK185
              clear HB
              have BK185 := n0_
              have HB := n1_
              clear n0_ n1_
              have p186 : 0 ≤ (0 : Int) := (by omega)
              have q186 : 0 < (l0_4.length : Int) := of_decide_eq_true (by first | (with_reducible assumption) | assumption)
              obtain ⟨ad186, A186_4, c186_4, e186, hx186_0, hx186_1, hx186_2, hx186_3, hx186_4, hl186_4, hi186_4⟩ := at_T24 HR0_4.out 0 p186 q186
              have hw186_4 := hx186_4
              (try rw [show ((0 : Int)).toNat = 0 from rfl] at hw186_4)
              (try rw [show 0 * 5 = 0 from rfl] at hw186_4)
              (try rw [Addr.add_zero'] at hw186_4)
              have hw186_3 := hx186_3
              (try rw [show ((0 : Int)).toNat = 0 from rfl] at hw186_3)
              (try rw [show 0 * 5 = 0 from rfl] at hw186_3)
              (try rw [Addr.add_zero'] at hw186_3)
              have hw186_2 := hx186_2
              (try rw [show ((0 : Int)).toNat = 0 from rfl] at hw186_2)
              (try rw [show 0 * 5 = 0 from rfl] at hw186_2)
              (try rw [Addr.add_zero'] at hw186_2)
              have hw186_1 := hx186_1
              (try rw [show ((0 : Int)).toNat = 0 from rfl] at hw186_1)
              (try rw [show 0 * 5 = 0 from rfl] at hw186_1)
              (try rw [Addr.add_zero'] at hw186_1)
              have hw186_0 := hx186_0
              (try rw [show ((0 : Int)).toNat = 0 from rfl] at hw186_0)
              (try rw [show 0 * 5 = 0 from rfl] at hw186_0)
              (try rw [Addr.add_zero'] at hw186_0)
              cases e186
              have qi186 : (0 < l0_4.length) = True := eq_true (by omega)
              (try rw [show ((0 : Int)).toNat = 0 from rfl] at hx186_0)
              (try rw [show 0 * 5 = 0 from rfl] at hx186_0)
              (try rw [Addr.add_zero'] at hx186_0)
              (try rw [show ((0 : Int)).toNat = 0 from rfl] at hx186_1)
              (try rw [show 0 * 5 = 0 from rfl] at hx186_1)
              (try rw [Addr.add_zero'] at hx186_1)
              (try rw [show ((0 : Int)).toNat = 0 from rfl] at hx186_2)
              (try rw [show 0 * 5 = 0 from rfl] at hx186_2)
              (try rw [Addr.add_zero'] at hx186_2)
              (try rw [show ((0 : Int)).toNat = 0 from rfl] at hx186_3)
              (try rw [show 0 * 5 = 0 from rfl] at hx186_3)
              (try rw [Addr.add_zero'] at hx186_3)
              (try rw [show ((0 : Int)).toNat = 0 from rfl] at hx186_4)
              (try rw [show 0 * 5 = 0 from rfl] at hx186_4)
              (try rw [Addr.add_zero'] at hx186_4)
              replace hx186_0 := (HB.out.cell (World.block_lt_of_cell? w _ hx186_0)).trans hx186_0
              replace hx186_1 := (HB.out.cell (World.block_lt_of_cell? w _ hx186_1)).trans hx186_1
              replace hx186_2 := (HB.out.cell (World.block_lt_of_cell? w _ hx186_2)).trans hx186_2
              replace hx186_3 := (HB.out.cell (World.block_lt_of_cell? w _ hx186_3)).trans hx186_3
              replace hx186_4 := (HB.out.cell (World.block_lt_of_cell? w _ hx186_4)).trans hx186_4
              have HR186_4 := Aside0.mk hi186_4
              have HC186_4 := Aside0.mk hl186_4
              clear hi186_4 hl186_4
              replace p186 := eq_true p186
              replace q186 := eq_true q186
              have p188 : 0 ≤ (1 : Int) := (by omega)
              have q188 : 1 < (l0_4.length : Int) := of_decide_eq_true (by first | (with_reducible assumption) | assumption)
              obtain ⟨ad188, A188_4, c188_4, e188, hx188_0, hx188_1, hx188_2, hx188_3, hx188_4, hl188_4, hi188_4⟩ := at_T24 HR0_4.out 1 p188 q188
              have hw188_4 := hx188_4
              (try rw [show ((1 : Int)).toNat = 1 from rfl] at hw188_4)
              (try rw [show 1 * 5 = 5 from rfl] at hw188_4)
              (try simp only [Nat.reduceMul, Nat.reduceEqDiff, Go.Addr.add, ↓reduceIte] at hw188_4)
              have hw188_3 := hx188_3
              (try rw [show ((1 : Int)).toNat = 1 from rfl] at hw188_3)
              (try rw [show 1 * 5 = 5 from rfl] at hw188_3)
              (try simp only [Nat.reduceMul, Nat.reduceEqDiff, Go.Addr.add, ↓reduceIte] at hw188_3)
              have hw188_2 := hx188_2
              (try rw [show ((1 : Int)).toNat = 1 from rfl] at hw188_2)
              (try rw [show 1 * 5 = 5 from rfl] at hw188_2)
              (try simp only [Nat.reduceMul, Nat.reduceEqDiff, Go.Addr.add, ↓reduceIte] at hw188_2)
              have hw188_1 := hx188_1
              (try rw [show ((1 : Int)).toNat = 1 from rfl] at hw188_1)
              (try rw [show 1 * 5 = 5 from rfl] at hw188_1)
              (try simp only [Nat.reduceMul, Nat.reduceEqDiff, Go.Addr.add, ↓reduceIte] at hw188_1)
              have hw188_0 := hx188_0
              (try rw [show ((1 : Int)).toNat = 1 from rfl] at hw188_0)
              (try rw [show 1 * 5 = 5 from rfl] at hw188_0)
              (try simp only [Nat.reduceMul, Nat.reduceEqDiff, Go.Addr.add, ↓reduceIte] at hw188_0)
              obtain rfl : ad186 = ad188 := (by injection e188)
              (try simp only [show (1 : Int).toNat = 1 from rfl, Nat.reduceMul, Nat.reduceEqDiff, Go.Addr.add, ↓reduceIte] at hx188_0)
              (try simp only [show (1 : Int).toNat = 1 from rfl, Nat.reduceMul, Nat.reduceEqDiff, Go.Addr.add, ↓reduceIte] at hx188_1)
              (try simp only [show (1 : Int).toNat = 1 from rfl, Nat.reduceMul, Nat.reduceEqDiff, Go.Addr.add, ↓reduceIte] at hx188_2)
              (try simp only [show (1 : Int).toNat = 1 from rfl, Nat.reduceMul, Nat.reduceEqDiff, Go.Addr.add, ↓reduceIte] at hx188_3)
              (try simp only [show (1 : Int).toNat = 1 from rfl, Nat.reduceMul, Nat.reduceEqDiff, Go.Addr.add, ↓reduceIte] at hx188_4)
              have qi188 : (1 < l0_4.length) = True := eq_true (by omega)
              (try rw [show ((1 : Int)).toNat = 1 from rfl] at hx188_0)
              (try rw [show 1 * 5 = 5 from rfl] at hx188_0)
              (try rw [show ((1 : Int)).toNat = 1 from rfl] at hx188_1)
              (try rw [show 1 * 5 = 5 from rfl] at hx188_1)
              (try rw [show ((1 : Int)).toNat = 1 from rfl] at hx188_2)
              (try rw [show 1 * 5 = 5 from rfl] at hx188_2)
              (try rw [show ((1 : Int)).toNat = 1 from rfl] at hx188_3)
              (try rw [show 1 * 5 = 5 from rfl] at hx188_3)
              (try rw [show ((1 : Int)).toNat = 1 from rfl] at hx188_4)
              (try rw [show 1 * 5 = 5 from rfl] at hx188_4)
              replace hx188_0 := (HB.out.cell (World.block_lt_of_cell? w _ hx188_0)).trans hx188_0
              replace hx188_1 := (HB.out.cell (World.block_lt_of_cell? w _ hx188_1)).trans hx188_1
              replace hx188_2 := (HB.out.cell (World.block_lt_of_cell? w _ hx188_2)).trans hx188_2
              replace hx188_3 := (HB.out.cell (World.block_lt_of_cell? w _ hx188_3)).trans hx188_3
              replace hx188_4 := (HB.out.cell (World.block_lt_of_cell? w _ hx188_4)).trans hx188_4
              have HR188_4 := Aside0.mk hi188_4
              have HC188_4 := Aside0.mk hl188_4
              clear hi188_4 hl188_4
              replace p188 := eq_true p188
              replace q188 := eq_true q188
              refine start_ (n := 13) (S := fun w' => w'.cell? ⟨gb185, 0, none⟩ = some (.string a0_0) ∧ w'.cell? ⟨gb185, 1, none⟩ = some (.string a0_1) ∧ w'.cell? ⟨gb185, 2, none⟩ = some (.int .i64 a0_2) ∧ w'.cell? ⟨gb185, 3, none⟩ = some (.int .i64 a0_3) ∧ w'.cell? ⟨gb185, 4, none⟩ = some (.slice (some ad186) l0_4.length c0_4) ∧ w'.cell? ad186 = some (.string ((rd_T24 l0_4 0).f0)) ∧ w'.cell? ⟨ad186.block, ad186.off + 1, none⟩ = some (.string ((rd_T24 l0_4 0).f1)) ∧ w'.cell? ⟨ad186.block, ad186.off + 2, none⟩ = some (.int .i64 ((rd_T24 l0_4 0).f2)) ∧ w'.cell? ⟨ad186.block, ad186.off + 3, none⟩ = some (.int .i64 ((rd_T24 l0_4 0).f3)) ∧ w'.cell? ⟨ad186.block, ad186.off + 4, none⟩ = some (.slice A186_4 ((rd_T24 l0_4 0).f4).length c186_4) ∧ w'.cell? ⟨ad186.block, ad186.off + 5, none⟩ = some (.string ((rd_T24 l0_4 1).f0)) ∧ w'.cell? ⟨ad186.block, ad186.off + 5 + 1, none⟩ = some (.string ((rd_T24 l0_4 1).f1)) ∧ w'.cell? ⟨ad186.block, ad186.off + 5 + 2, none⟩ = some (.int .i64 ((rd_T24 l0_4 1).f2)) ∧ w'.cell? ⟨ad186.block, ad186.off + 5 + 3, none⟩ = some (.int .i64 ((rd_T24 l0_4 1).f3)) ∧ w'.cell? ⟨ad186.block, ad186.off + 5 + 4, none⟩ = some (.slice A188_4 ((rd_T24 l0_4 1).f4).length c188_4)) (ds := []) #[false, false, false, false, false, false, false, false, false, false, false, false, false] (by kernel_rfl) rfl rfl ⟨(blk_cell BK185.out 0).trans rfl, (blk_cell BK185.out 1).trans rfl, (blk_cell BK185.out 2).trans rfl, (blk_cell BK185.out 3).trans rfl, (blk_cell BK185.out 4).trans rfl, ((HB.out.cell (World.block_lt_of_cell? w _ hw186_0)).trans hw186_0), ((HB.out.cell (World.block_lt_of_cell? w _ hw186_1)).trans hw186_1), ((HB.out.cell (World.block_lt_of_cell? w _ hw186_2)).trans hw186_2), ((HB.out.cell (World.block_lt_of_cell? w _ hw186_3)).trans hw186_3), ((HB.out.cell (World.block_lt_of_cell? w _ hw186_4)).trans hw186_4), ((HB.out.cell (World.block_lt_of_cell? w _ hw188_0)).trans hw188_0), ((HB.out.cell (World.block_lt_of_cell? w _ hw188_1)).trans hw188_1), ((HB.out.cell (World.block_lt_of_cell? w _ hw188_2)).trans hw188_2), ((HB.out.cell (World.block_lt_of_cell? w _ hw188_3)).trans hw188_3), ((HB.out.cell (World.block_lt_of_cell? w _ hw188_4)).trans hw188_4)⟩ (fun hHeld => ?_); refine with_tabW patchbayref4_SiftString.tab4 patchbayref4_SiftString.bits4 (fun HT_ HW_ => ?_)
              generalize w13.drew = w15 at BK185 HB HR186_4 HR188_4 hx186_0 hx186_1 hx186_2 hx186_3 hx186_4 hx188_0 hx188_1 hx188_2 hx188_3 hx188_4 hHeld ⊢
              refine pure_ (i := 0) (N := some 12) (v := ?_) (a' := ?_) #[true, false, false, false, false, false, false, false, false, false, false, false, false] rfl rfl (any_of HT_.out (by kernel_rfl)) (fun _ _ _ h => h) (Or.inl ⟨by rfl, ?_⟩) ?_ ?_
              rotate_left
              · intro w'
                go_simp
                with_reducible rfl
              rotate_left
              · simp only [Act.put, List.setIfInBounds_toArray, List.set_cons_zero, List.set_cons_succ, i64_w, i32_w]
                rfl
              refine pure_ (i := 6) (N := some 18) (v := ?_) (a' := ?_) #[true, false, false, false, false, false, true, false, false, false, false, false, false] rfl rfl (any_of HT_.out (by kernel_rfl)) (fun _ _ _ h => h) (Or.inl ⟨by rfl, ?_⟩) ?_ ?_
              rotate_left
              · intro w'
                go_simp
                with_reducible rfl
              rotate_left
              · simp only [Act.put, List.setIfInBounds_toArray, List.set_cons_zero, List.set_cons_succ, i64_w, i32_w]
                rfl
              refine take_ (i := 1) (N := some 13) (v := ?_) (a' := ?_) #[true, true, false, false, false, false, true, false, false, false, false, false, false] rfl rfl (take_ofW HT_.out HW_.out (by kernel_rfl)) (fun _ _ _ h => h) (Or.inl ⟨by rfl, ?_⟩) hHeld ?_ ?_
              rotate_left
              · rintro w' ⟨s0, s1, s2, s3, s4, s5, s6, s7, s8, s9, s10, s11, s12, s13, s14⟩
                go_simp
                with_reducible rfl
              rotate_left
              · simp only [Act.put, List.setIfInBounds_toArray, List.set_cons_zero, List.set_cons_succ, i64_w, i32_w]
                rfl
              refine pure_ (i := 2) (N := some 14) (v := ?_) (a' := ?_) #[true, true, true, false, false, false, true, false, false, false, false, false, false] rfl rfl (any_of HT_.out (by kernel_rfl)) (fun _ _ _ h => h) (Or.inl ⟨by rfl, ?_⟩) ?_ ?_
              rotate_left
              · intro w'
                go_simp
                with_reducible rfl
              rotate_left
              · simp only [Act.put, List.setIfInBounds_toArray, List.set_cons_zero, List.set_cons_succ, i64_w, i32_w]
                rfl
              refine take_ (i := 3) (N := some 15) (v := ?_) (a' := ?_) #[true, true, true, true, false, false, true, false, false, false, false, false, false] rfl rfl (take_ofW HT_.out HW_.out (by kernel_rfl)) (fun _ _ _ h => h) (Or.inl ⟨by rfl, ?_⟩) hHeld ?_ ?_
              rotate_left
              · rintro w' ⟨s0, s1, s2, s3, s4, s5, s6, s7, s8, s9, s10, s11, s12, s13, s14⟩
                go_simp
                with_reducible rfl
              rotate_left
              · simp only [Act.put, List.setIfInBounds_toArray, List.set_cons_zero, List.set_cons_succ, i64_w, i32_w]
                rfl
              refine take_ (i := 7) (N := some 19) (v := ?_) (a' := ?_) #[true, true, true, true, false, false, true, true, false, false, false, false, false] rfl rfl (take_ofW HT_.out HW_.out (by kernel_rfl)) (fun _ _ _ h => h) (Or.inl ⟨by rfl, ?_⟩) hHeld ?_ ?_
              rotate_left
              · rintro w' ⟨s0, s1, s2, s3, s4, s5, s6, s7, s8, s9, s10, s11, s12, s13, s14⟩
                go_simp
                with_reducible rfl
              rotate_left
              · simp only [Act.put, List.setIfInBounds_toArray, List.set_cons_zero, List.set_cons_succ, i64_w, i32_w]
                rfl
              refine pure_ (i := 8) (N := some 20) (v := ?_) (a' := ?_) #[true, true, true, true, false, false, true, true, true, false, false, false, false] rfl rfl (any_of HT_.out (by kernel_rfl)) (fun _ _ _ h => h) (Or.inl ⟨by rfl, ?_⟩) ?_ ?_
              rotate_left
              · intro w'
                go_simp
                with_reducible rfl
              rotate_left
              · simp only [Act.put, List.setIfInBounds_toArray, List.set_cons_zero, List.set_cons_succ, i64_w, i32_w]
                rfl
              refine take_ (i := 9) (N := some 21) (v := ?_) (a' := ?_) #[true, true, true, true, false, false, true, true, true, true, false, false, false] rfl rfl (take_ofW HT_.out HW_.out (by kernel_rfl)) (fun _ _ _ h => h) (Or.inl ⟨by rfl, ?_⟩) hHeld ?_ ?_
              rotate_left
              · rintro w' ⟨s0, s1, s2, s3, s4, s5, s6, s7, s8, s9, s10, s11, s12, s13, s14⟩
                go_simp
                with_reducible rfl
              rotate_left
              · simp only [Act.put, List.setIfInBounds_toArray, List.set_cons_zero, List.set_cons_succ, i64_w, i32_w]
                rfl
              refine one_ (i := 4) (N := some 16) #[true, true, true, true, true, false, true, true, true, true, false, false, false] rfl rfl (one_of HT_.out (by kernel_rfl)) (by decide) (fun K hK => ?_)
              refine goes_ Tryd.func8 (by kernel_rfl) rfl #[.agg #[.string ((rd_T24 l0_4 0).f0), .string ((rd_T24 l0_4 0).f1), .int .i64 ((rd_T24 l0_4 0).f2), .int .i64 ((rd_T24 l0_4 0).f3), .slice A186_4 ((rd_T24 l0_4 0).f4).length c186_4], .int .i64 0] (by rfl) rfl rfl (by (try simp only [List.map_toArray, List.map_cons, List.map_nil]); first | done | rfl | (simp only [List.length_drop, List.length_take]; rfl)) ?_
              with_reducible refine (ih k (by omega) ((rd_T24 l0_4 0).f0) ((rd_T24 l0_4 0).f1) ((rd_T24 l0_4 0).f2) ((rd_T24 l0_4 0).f3) _ _ ((rd_T24 l0_4 0).f4) 0 t187 _ ?side1 ?side2 A5.out).mono ?_
              (case side1 => repeat (first | exact (Kd.C_below HR186_4.out HB.out) | (with_reducible refine Kd.C_alloc ?_ _) | (with_reducible refine Kd.C_drewN ?_ _) | (with_reducible refine Kd.C_drew ?_)))
              (case side2 => exact HC186_4.out)
              rintro e w16 ⟨rfl, hb⟩
              refine ⟨_, rfl, ?_⟩
              have n0_ := Aside0.mk (blk_below (g := gb185) (o := .cells #[.string a0_0, .string a0_1, .int .i64 a0_2, .int .i64 a0_3, .slice (some ad186) l0_4.length c0_4] 24 (0, 0)) (by (with_reducible repeat (first | refine blk_drewN ?_ _ | refine blk_drew ?_ | refine blk_alloc ?_ _)); exact BK185.out) hb)
              have n1_ := Aside0.mk (below_step (by repeat (first | (with_reducible first | exact HB.out | apply below_alloc | apply pw_below_drewN | apply below_drew1 | refine below_set ?_ GE185.out) | exact HB.out)) hb)
              clear BK185
              clear HB
              have BK185 := n0_
              have HB := n1_
              clear n0_ n1_
              (try clear hb)
              (try clear hb2)
              (try clear hk)
              (try clear hi)
              refine hK.out _ _ ⟨(blk_cell BK185.out 0).trans rfl, (blk_cell BK185.out 1).trans rfl, (blk_cell BK185.out 2).trans rfl, (blk_cell BK185.out 3).trans rfl, (blk_cell BK185.out 4).trans rfl, ((HB.out.cell (World.block_lt_of_cell? w _ hw186_0)).trans hw186_0), ((HB.out.cell (World.block_lt_of_cell? w _ hw186_1)).trans hw186_1), ((HB.out.cell (World.block_lt_of_cell? w _ hw186_2)).trans hw186_2), ((HB.out.cell (World.block_lt_of_cell? w _ hw186_3)).trans hw186_3), ((HB.out.cell (World.block_lt_of_cell? w _ hw186_4)).trans hw186_4), ((HB.out.cell (World.block_lt_of_cell? w _ hw188_0)).trans hw188_0), ((HB.out.cell (World.block_lt_of_cell? w _ hw188_1)).trans hw188_1), ((HB.out.cell (World.block_lt_of_cell? w _ hw188_2)).trans hw188_2), ((HB.out.cell (World.block_lt_of_cell? w _ hw188_3)).trans hw188_3), ((HB.out.cell (World.block_lt_of_cell? w _ hw188_4)).trans hw188_4)⟩ (fun hHeld => ?_)
              clear hK K
              refine norm_ (a' := ?_) ?_ ?_
              rotate_left
              · show Act.put _ (some 16) _ = _
                simp only [Act.put, List.setIfInBounds_toArray, List.set_cons_zero, List.set_cons_succ, i64_w, i32_w]
                rfl
              refine pure_ (i := 5) (N := some 17) (v := ?_) (a' := ?_) #[true, true, true, true, true, true, true, true, true, true, false, false, false] rfl rfl (any_of HT_.out (by kernel_rfl)) (fun _ _ _ h => h) (Or.inl ⟨by rfl, ?_⟩) ?_ ?_
              rotate_left
              · intro w'
                go_simp
                with_reducible rfl
              rotate_left
              · simp only [Act.put, List.setIfInBounds_toArray, List.set_cons_zero, List.set_cons_succ, i64_w, i32_w]
                rfl
              refine one_ (i := 10) (N := some 22) #[true, true, true, true, true, true, true, true, true, true, true, false, false] rfl rfl (one_of HT_.out (by kernel_rfl)) (by decide) (fun K hK => ?_)
              refine goes_ Tryd.func8 (by kernel_rfl) rfl #[.agg #[.string ((rd_T24 l0_4 1).f0), .string ((rd_T24 l0_4 1).f1), .int .i64 ((rd_T24 l0_4 1).f2), .int .i64 ((rd_T24 l0_4 1).f3), .slice A188_4 ((rd_T24 l0_4 1).f4).length c188_4], .int .i64 1] (by rfl) rfl rfl (by (try simp only [List.map_toArray, List.map_cons, List.map_nil]); first | done | rfl | (simp only [List.length_drop, List.length_take]; rfl)) ?_
              with_reducible refine (ih k (by omega) ((rd_T24 l0_4 1).f0) ((rd_T24 l0_4 1).f1) ((rd_T24 l0_4 1).f2) ((rd_T24 l0_4 1).f3) _ _ ((rd_T24 l0_4 1).f4) 1 t189 _ ?side1 ?side2 A8.out).mono ?_
              (case side1 => repeat (first | exact (Kd.C_below HR188_4.out HB.out) | (with_reducible refine Kd.C_alloc ?_ _) | (with_reducible refine Kd.C_drewN ?_ _) | (with_reducible refine Kd.C_drew ?_)))
              (case side2 => exact HC188_4.out)
              rintro e w17 ⟨rfl, hb⟩
              refine ⟨_, rfl, ?_⟩
              have n0_ := Aside0.mk (blk_below (g := gb185) (o := .cells #[.string a0_0, .string a0_1, .int .i64 a0_2, .int .i64 a0_3, .slice (some ad186) l0_4.length c0_4] 24 (0, 0)) (by (with_reducible repeat (first | refine blk_drewN ?_ _ | refine blk_drew ?_ | refine blk_alloc ?_ _)); exact BK185.out) hb)
              have n1_ := Aside0.mk (below_step (by repeat (first | (with_reducible first | exact HB.out | apply below_alloc | apply pw_below_drewN | apply below_drew1 | refine below_set ?_ GE185.out) | exact HB.out)) hb)
              clear BK185
              clear HB
              have BK185 := n0_
              have HB := n1_
              clear n0_ n1_
              (try clear hb)
              (try clear hb2)
              (try clear hk)
              (try clear hi)
              refine hK.out _ _ ⟨(blk_cell BK185.out 0).trans rfl, (blk_cell BK185.out 1).trans rfl, (blk_cell BK185.out 2).trans rfl, (blk_cell BK185.out 3).trans rfl, (blk_cell BK185.out 4).trans rfl, ((HB.out.cell (World.block_lt_of_cell? w _ hw186_0)).trans hw186_0), ((HB.out.cell (World.block_lt_of_cell? w _ hw186_1)).trans hw186_1), ((HB.out.cell (World.block_lt_of_cell? w _ hw186_2)).trans hw186_2), ((HB.out.cell (World.block_lt_of_cell? w _ hw186_3)).trans hw186_3), ((HB.out.cell (World.block_lt_of_cell? w _ hw186_4)).trans hw186_4), ((HB.out.cell (World.block_lt_of_cell? w _ hw188_0)).trans hw188_0), ((HB.out.cell (World.block_lt_of_cell? w _ hw188_1)).trans hw188_1), ((HB.out.cell (World.block_lt_of_cell? w _ hw188_2)).trans hw188_2), ((HB.out.cell (World.block_lt_of_cell? w _ hw188_3)).trans hw188_3), ((HB.out.cell (World.block_lt_of_cell? w _ hw188_4)).trans hw188_4)⟩ (fun hHeld => ?_)
              clear hK K
              refine norm_ (a' := ?_) ?_ ?_
              rotate_left
              · show Act.put _ (some 22) _ = _
                simp only [Act.put, List.setIfInBounds_toArray, List.set_cons_zero, List.set_cons_succ, i64_w, i32_w]
                rfl
              refine pure_ (i := 11) (N := some 23) (v := ?_) (a' := ?_) #[true, true, true, true, true, true, true, true, true, true, true, true, false] rfl rfl (any_of HT_.out (by kernel_rfl)) (fun _ _ _ h => h) (Or.inl ⟨by rfl, ?_⟩) ?_ ?_
              rotate_left
              · intro w'
                go_simp
                with_reducible rfl
              rotate_left
              · simp only [Act.put, List.setIfInBounds_toArray, List.set_cons_zero, List.set_cons_succ, i64_w, i32_w]
                rfl
              refine pure_ (i := 12) (N := some 5) (v := ?_) (a' := ?_) #[true, true, true, true, true, true, true, true, true, true, true, true, true] rfl rfl (any_of HT_.out (by kernel_rfl)) (fun _ _ _ h => h) (Or.inl ⟨by rfl, ?_⟩) ?_ ?_
              rotate_left
              · intro w'
                go_simp
                with_reducible rfl
              rotate_left
              · simp only [Act.put, List.setIfInBounds_toArray, List.set_cons_zero, List.set_cons_succ, i64_w, i32_w]
                rfl
              refine done_ (done_of HT_.out (by kernel_rfl)) ?_
              try go_wp2
              go_ret
              exact ⟨by first | rfl | (simp [errW_none, errW_some] <;> rfl) | (simp [*, errW_none, errW_some] <;> rfl), by repeat (first | (with_reducible first | exact HB.out | apply below_alloc | apply pw_below_drewN | apply below_drew1 | refine below_set ?_ GE185.out) | exact HB.out)⟩
            · rw [if_neg c12] at H
              exact absurd H (by simp)
          · rw [if_neg c11] at H
            exact absurd H (by simp)
        · rw [if_neg c10] at H
          have c10b0 : decide (0 < a1) = false := decide_eq_false c10
          clear c10
          obtain rfl := Option.some.inj H
          go_enter Tryd.func8, Tryd.ntmps8
          try go_wp2_with (first | ((with_reducible refine gate_dst (N := 2) rfl ?_); refine box_event ?hg (N := 2) ?hd (cs := #[.string a0_0, .string a0_1, .int .i64 a0_2, .int .i64 a0_3, .slice A0_4 l0_4.length c0_4]) (t := 24) ?hr ?_; (case hd => rfl); (case hg => rfl); (case hr => first | (go_simp; done) | (go_simp; rfl)); intro gb185 hg w18 hbox hb; have n0_ := Aside0.mk (below_step (by repeat (first | (with_reducible first | exact HB.out | apply below_alloc | apply pw_below_drewN | apply below_drew1) | exact HB.out)) hb); have n1_ := Aside0.mk (hbox); have n2_ := Aside0.mk ((by rw [hg]; exact (below_size (by repeat (first | (with_reducible first | exact HB.out | apply below_alloc | apply pw_below_drewN | apply below_drew1) | exact HB.out))) : w.heap.size ≤ gb185)); have n3_ := Aside0.mk ((by rw [hg]; exact (below_size (by repeat (first | (with_reducible first | exact HB.out | apply below_alloc | apply pw_below_drewN | apply below_drew1) | exact HB.out))) : w.heap.size ≤ gb185)); clear HB; have HB := n0_; have BK185 := n1_; have GW185 := n2_; have GE185 := n3_; clear n0_ n1_ n2_ n3_; clear hb hbox hg; have hcz19_0 : w18.cell? ⟨gb185, 0, none⟩ = some (.string a0_0) := (blk_cell BK185.out 0).trans rfl; have hcz19_1 : w18.cell? ⟨gb185, 1, none⟩ = some (.string a0_1) := (blk_cell BK185.out 1).trans rfl; have hcz19_2 : w18.cell? ⟨gb185, 2, none⟩ = some (.int .i64 a0_2) := (blk_cell BK185.out 2).trans rfl; have hcz19_3 : w18.cell? ⟨gb185, 3, none⟩ = some (.int .i64 a0_3) := (blk_cell BK185.out 3).trans rfl; have hcz19_4 : w18.cell? ⟨gb185, 4, none⟩ = some (.slice A0_4 l0_4.length c0_4) := (blk_cell BK185.out 4).trans rfl; have hfz19_0 := blk_frozen BK185.out 0; have hfz19_1 := blk_frozen BK185.out 1; have hfz19_2 := blk_frozen BK185.out 2; have hfz19_3 := blk_frozen BK185.out 3; have hfz19_4 := blk_frozen BK185.out 4))
          have n0_ := Aside0.mk (blk_drew BK185.out)
          have n1_ := Aside0.mk (below_drew1 HB.out)
          clear BK185
          clear HB
          have BK185 := n0_
          have HB := n1_
          clear n0_ n1_
          have p186 : 0 ≤ (0 : Int) := (by omega)
          have q186 : 0 < (l0_4.length : Int) := of_decide_eq_true (by first | (with_reducible assumption) | assumption)
          obtain ⟨ad186, A186_4, c186_4, e186, hx186_0, hx186_1, hx186_2, hx186_3, hx186_4, hl186_4, hi186_4⟩ := at_T24 HR0_4.out 0 p186 q186
          have hw186_4 := hx186_4
          (try rw [show ((0 : Int)).toNat = 0 from rfl] at hw186_4)
          (try rw [show 0 * 5 = 0 from rfl] at hw186_4)
          (try rw [Addr.add_zero'] at hw186_4)
          have hw186_3 := hx186_3
          (try rw [show ((0 : Int)).toNat = 0 from rfl] at hw186_3)
          (try rw [show 0 * 5 = 0 from rfl] at hw186_3)
          (try rw [Addr.add_zero'] at hw186_3)
          have hw186_2 := hx186_2
          (try rw [show ((0 : Int)).toNat = 0 from rfl] at hw186_2)
          (try rw [show 0 * 5 = 0 from rfl] at hw186_2)
          (try rw [Addr.add_zero'] at hw186_2)
          have hw186_1 := hx186_1
          (try rw [show ((0 : Int)).toNat = 0 from rfl] at hw186_1)
          (try rw [show 0 * 5 = 0 from rfl] at hw186_1)
          (try rw [Addr.add_zero'] at hw186_1)
          have hw186_0 := hx186_0
          (try rw [show ((0 : Int)).toNat = 0 from rfl] at hw186_0)
          (try rw [show 0 * 5 = 0 from rfl] at hw186_0)
          (try rw [Addr.add_zero'] at hw186_0)
          cases e186
          have qi186 : (0 < l0_4.length) = True := eq_true (by omega)
          (try rw [show ((0 : Int)).toNat = 0 from rfl] at hx186_0)
          (try rw [show 0 * 5 = 0 from rfl] at hx186_0)
          (try rw [Addr.add_zero'] at hx186_0)
          (try rw [show ((0 : Int)).toNat = 0 from rfl] at hx186_1)
          (try rw [show 0 * 5 = 0 from rfl] at hx186_1)
          (try rw [Addr.add_zero'] at hx186_1)
          (try rw [show ((0 : Int)).toNat = 0 from rfl] at hx186_2)
          (try rw [show 0 * 5 = 0 from rfl] at hx186_2)
          (try rw [Addr.add_zero'] at hx186_2)
          (try rw [show ((0 : Int)).toNat = 0 from rfl] at hx186_3)
          (try rw [show 0 * 5 = 0 from rfl] at hx186_3)
          (try rw [Addr.add_zero'] at hx186_3)
          (try rw [show ((0 : Int)).toNat = 0 from rfl] at hx186_4)
          (try rw [show 0 * 5 = 0 from rfl] at hx186_4)
          (try rw [Addr.add_zero'] at hx186_4)
          replace hx186_0 := (HB.out.cell (World.block_lt_of_cell? w _ hx186_0)).trans hx186_0
          replace hx186_1 := (HB.out.cell (World.block_lt_of_cell? w _ hx186_1)).trans hx186_1
          replace hx186_2 := (HB.out.cell (World.block_lt_of_cell? w _ hx186_2)).trans hx186_2
          replace hx186_3 := (HB.out.cell (World.block_lt_of_cell? w _ hx186_3)).trans hx186_3
          replace hx186_4 := (HB.out.cell (World.block_lt_of_cell? w _ hx186_4)).trans hx186_4
          have HR186_4 := Aside0.mk hi186_4
          have HC186_4 := Aside0.mk hl186_4
          clear hi186_4 hl186_4
          replace p186 := eq_true p186
          replace q186 := eq_true q186
          have p188 : 0 ≤ (1 : Int) := (by omega)
          have q188 : 1 < (l0_4.length : Int) := of_decide_eq_true (by first | (with_reducible assumption) | assumption)
          obtain ⟨ad188, A188_4, c188_4, e188, hx188_0, hx188_1, hx188_2, hx188_3, hx188_4, hl188_4, hi188_4⟩ := at_T24 HR0_4.out 1 p188 q188
          have hw188_4 := hx188_4
          (try rw [show ((1 : Int)).toNat = 1 from rfl] at hw188_4)
          (try rw [show 1 * 5 = 5 from rfl] at hw188_4)
          (try simp only [Nat.reduceMul, Nat.reduceEqDiff, Go.Addr.add, ↓reduceIte] at hw188_4)
          have hw188_3 := hx188_3
          (try rw [show ((1 : Int)).toNat = 1 from rfl] at hw188_3)
          (try rw [show 1 * 5 = 5 from rfl] at hw188_3)
          (try simp only [Nat.reduceMul, Nat.reduceEqDiff, Go.Addr.add, ↓reduceIte] at hw188_3)
          have hw188_2 := hx188_2
          (try rw [show ((1 : Int)).toNat = 1 from rfl] at hw188_2)
          (try rw [show 1 * 5 = 5 from rfl] at hw188_2)
          (try simp only [Nat.reduceMul, Nat.reduceEqDiff, Go.Addr.add, ↓reduceIte] at hw188_2)
          have hw188_1 := hx188_1
          (try rw [show ((1 : Int)).toNat = 1 from rfl] at hw188_1)
          (try rw [show 1 * 5 = 5 from rfl] at hw188_1)
          (try simp only [Nat.reduceMul, Nat.reduceEqDiff, Go.Addr.add, ↓reduceIte] at hw188_1)
          have hw188_0 := hx188_0
          (try rw [show ((1 : Int)).toNat = 1 from rfl] at hw188_0)
          (try rw [show 1 * 5 = 5 from rfl] at hw188_0)
          (try simp only [Nat.reduceMul, Nat.reduceEqDiff, Go.Addr.add, ↓reduceIte] at hw188_0)
          obtain rfl : ad186 = ad188 := (by injection e188)
          (try simp only [show (1 : Int).toNat = 1 from rfl, Nat.reduceMul, Nat.reduceEqDiff, Go.Addr.add, ↓reduceIte] at hx188_0)
          (try simp only [show (1 : Int).toNat = 1 from rfl, Nat.reduceMul, Nat.reduceEqDiff, Go.Addr.add, ↓reduceIte] at hx188_1)
          (try simp only [show (1 : Int).toNat = 1 from rfl, Nat.reduceMul, Nat.reduceEqDiff, Go.Addr.add, ↓reduceIte] at hx188_2)
          (try simp only [show (1 : Int).toNat = 1 from rfl, Nat.reduceMul, Nat.reduceEqDiff, Go.Addr.add, ↓reduceIte] at hx188_3)
          (try simp only [show (1 : Int).toNat = 1 from rfl, Nat.reduceMul, Nat.reduceEqDiff, Go.Addr.add, ↓reduceIte] at hx188_4)
          have qi188 : (1 < l0_4.length) = True := eq_true (by omega)
          (try rw [show ((1 : Int)).toNat = 1 from rfl] at hx188_0)
          (try rw [show 1 * 5 = 5 from rfl] at hx188_0)
          (try rw [show ((1 : Int)).toNat = 1 from rfl] at hx188_1)
          (try rw [show 1 * 5 = 5 from rfl] at hx188_1)
          (try rw [show ((1 : Int)).toNat = 1 from rfl] at hx188_2)
          (try rw [show 1 * 5 = 5 from rfl] at hx188_2)
          (try rw [show ((1 : Int)).toNat = 1 from rfl] at hx188_3)
          (try rw [show 1 * 5 = 5 from rfl] at hx188_3)
          (try rw [show ((1 : Int)).toNat = 1 from rfl] at hx188_4)
          (try rw [show 1 * 5 = 5 from rfl] at hx188_4)
          replace hx188_0 := (HB.out.cell (World.block_lt_of_cell? w _ hx188_0)).trans hx188_0
          replace hx188_1 := (HB.out.cell (World.block_lt_of_cell? w _ hx188_1)).trans hx188_1
          replace hx188_2 := (HB.out.cell (World.block_lt_of_cell? w _ hx188_2)).trans hx188_2
          replace hx188_3 := (HB.out.cell (World.block_lt_of_cell? w _ hx188_3)).trans hx188_3
          replace hx188_4 := (HB.out.cell (World.block_lt_of_cell? w _ hx188_4)).trans hx188_4
          have HR188_4 := Aside0.mk hi188_4
          have HC188_4 := Aside0.mk hl188_4
          clear hi188_4 hl188_4
          replace p188 := eq_true p188
          replace q188 := eq_true q188
          refine start_ (n := 13) (S := fun w' => w'.cell? ⟨gb185, 0, none⟩ = some (.string a0_0) ∧ w'.cell? ⟨gb185, 1, none⟩ = some (.string a0_1) ∧ w'.cell? ⟨gb185, 2, none⟩ = some (.int .i64 a0_2) ∧ w'.cell? ⟨gb185, 3, none⟩ = some (.int .i64 a0_3) ∧ w'.cell? ⟨gb185, 4, none⟩ = some (.slice (some ad186) l0_4.length c0_4) ∧ w'.cell? ad186 = some (.string ((rd_T24 l0_4 0).f0)) ∧ w'.cell? ⟨ad186.block, ad186.off + 1, none⟩ = some (.string ((rd_T24 l0_4 0).f1)) ∧ w'.cell? ⟨ad186.block, ad186.off + 2, none⟩ = some (.int .i64 ((rd_T24 l0_4 0).f2)) ∧ w'.cell? ⟨ad186.block, ad186.off + 3, none⟩ = some (.int .i64 ((rd_T24 l0_4 0).f3)) ∧ w'.cell? ⟨ad186.block, ad186.off + 4, none⟩ = some (.slice A186_4 ((rd_T24 l0_4 0).f4).length c186_4) ∧ w'.cell? ⟨ad186.block, ad186.off + 5, none⟩ = some (.string ((rd_T24 l0_4 1).f0)) ∧ w'.cell? ⟨ad186.block, ad186.off + 5 + 1, none⟩ = some (.string ((rd_T24 l0_4 1).f1)) ∧ w'.cell? ⟨ad186.block, ad186.off + 5 + 2, none⟩ = some (.int .i64 ((rd_T24 l0_4 1).f2)) ∧ w'.cell? ⟨ad186.block, ad186.off + 5 + 3, none⟩ = some (.int .i64 ((rd_T24 l0_4 1).f3)) ∧ w'.cell? ⟨ad186.block, ad186.off + 5 + 4, none⟩ = some (.slice A188_4 ((rd_T24 l0_4 1).f4).length c188_4)) (ds := []) #[false, false, false, false, false, false, false, false, false, false, false, false, false] (by kernel_rfl) rfl rfl ⟨(blk_cell BK185.out 0).trans rfl, (blk_cell BK185.out 1).trans rfl, (blk_cell BK185.out 2).trans rfl, (blk_cell BK185.out 3).trans rfl, (blk_cell BK185.out 4).trans rfl, ((HB.out.cell (World.block_lt_of_cell? w _ hw186_0)).trans hw186_0), ((HB.out.cell (World.block_lt_of_cell? w _ hw186_1)).trans hw186_1), ((HB.out.cell (World.block_lt_of_cell? w _ hw186_2)).trans hw186_2), ((HB.out.cell (World.block_lt_of_cell? w _ hw186_3)).trans hw186_3), ((HB.out.cell (World.block_lt_of_cell? w _ hw186_4)).trans hw186_4), ((HB.out.cell (World.block_lt_of_cell? w _ hw188_0)).trans hw188_0), ((HB.out.cell (World.block_lt_of_cell? w _ hw188_1)).trans hw188_1), ((HB.out.cell (World.block_lt_of_cell? w _ hw188_2)).trans hw188_2), ((HB.out.cell (World.block_lt_of_cell? w _ hw188_3)).trans hw188_3), ((HB.out.cell (World.block_lt_of_cell? w _ hw188_4)).trans hw188_4)⟩ (fun hHeld => ?_); refine with_tabW patchbayref4_SiftString.tab4 patchbayref4_SiftString.bits4 (fun HT_ HW_ => ?_)
          generalize w18.drew = w20 at BK185 HB HR186_4 HR188_4 hx186_0 hx186_1 hx186_2 hx186_3 hx186_4 hx188_0 hx188_1 hx188_2 hx188_3 hx188_4 hHeld ⊢
          refine pure_ (i := 0) (N := some 12) (v := ?_) (a' := ?_) #[true, false, false, false, false, false, false, false, false, false, false, false, false] rfl rfl (any_of HT_.out (by kernel_rfl)) (fun _ _ _ h => h) (Or.inl ⟨by rfl, ?_⟩) ?_ ?_
          rotate_left
          · intro w'
            go_simp
            with_reducible rfl
          rotate_left
          · simp only [Act.put, List.setIfInBounds_toArray, List.set_cons_zero, List.set_cons_succ, i64_w, i32_w]
            rfl
          refine pure_ (i := 6) (N := some 18) (v := ?_) (a' := ?_) #[true, false, false, false, false, false, true, false, false, false, false, false, false] rfl rfl (any_of HT_.out (by kernel_rfl)) (fun _ _ _ h => h) (Or.inl ⟨by rfl, ?_⟩) ?_ ?_
          rotate_left
          · intro w'
            go_simp
            with_reducible rfl
          rotate_left
          · simp only [Act.put, List.setIfInBounds_toArray, List.set_cons_zero, List.set_cons_succ, i64_w, i32_w]
            rfl
          refine take_ (i := 1) (N := some 13) (v := ?_) (a' := ?_) #[true, true, false, false, false, false, true, false, false, false, false, false, false] rfl rfl (take_ofW HT_.out HW_.out (by kernel_rfl)) (fun _ _ _ h => h) (Or.inl ⟨by rfl, ?_⟩) hHeld ?_ ?_
          rotate_left
          · rintro w' ⟨s0, s1, s2, s3, s4, s5, s6, s7, s8, s9, s10, s11, s12, s13, s14⟩
            go_simp
            with_reducible rfl
          rotate_left
          · simp only [Act.put, List.setIfInBounds_toArray, List.set_cons_zero, List.set_cons_succ, i64_w, i32_w]
            rfl
          refine pure_ (i := 2) (N := some 14) (v := ?_) (a' := ?_) #[true, true, true, false, false, false, true, false, false, false, false, false, false] rfl rfl (any_of HT_.out (by kernel_rfl)) (fun _ _ _ h => h) (Or.inl ⟨by rfl, ?_⟩) ?_ ?_
          rotate_left
          · intro w'
            go_simp
            with_reducible rfl
          rotate_left
          · simp only [Act.put, List.setIfInBounds_toArray, List.set_cons_zero, List.set_cons_succ, i64_w, i32_w]
            rfl
          refine take_ (i := 3) (N := some 15) (v := ?_) (a' := ?_) #[true, true, true, true, false, false, true, false, false, false, false, false, false] rfl rfl (take_ofW HT_.out HW_.out (by kernel_rfl)) (fun _ _ _ h => h) (Or.inl ⟨by rfl, ?_⟩) hHeld ?_ ?_
          rotate_left
          · rintro w' ⟨s0, s1, s2, s3, s4, s5, s6, s7, s8, s9, s10, s11, s12, s13, s14⟩
            go_simp
            with_reducible rfl
          rotate_left
          · simp only [Act.put, List.setIfInBounds_toArray, List.set_cons_zero, List.set_cons_succ, i64_w, i32_w]
            rfl
          refine take_ (i := 7) (N := some 19) (v := ?_) (a' := ?_) #[true, true, true, true, false, false, true, true, false, false, false, false, false] rfl rfl (take_ofW HT_.out HW_.out (by kernel_rfl)) (fun _ _ _ h => h) (Or.inl ⟨by rfl, ?_⟩) hHeld ?_ ?_
          rotate_left
          · rintro w' ⟨s0, s1, s2, s3, s4, s5, s6, s7, s8, s9, s10, s11, s12, s13, s14⟩
            go_simp
            with_reducible rfl
          rotate_left
          · simp only [Act.put, List.setIfInBounds_toArray, List.set_cons_zero, List.set_cons_succ, i64_w, i32_w]
            rfl
          refine pure_ (i := 8) (N := some 20) (v := ?_) (a' := ?_) #[true, true, true, true, false, false, true, true, true, false, false, false, false] rfl rfl (any_of HT_.out (by kernel_rfl)) (fun _ _ _ h => h) (Or.inl ⟨by rfl, ?_⟩) ?_ ?_
          rotate_left
          · intro w'
            go_simp
            with_reducible rfl
          rotate_left
          · simp only [Act.put, List.setIfInBounds_toArray, List.set_cons_zero, List.set_cons_succ, i64_w, i32_w]
            rfl
          refine take_ (i := 9) (N := some 21) (v := ?_) (a' := ?_) #[true, true, true, true, false, false, true, true, true, true, false, false, false] rfl rfl (take_ofW HT_.out HW_.out (by kernel_rfl)) (fun _ _ _ h => h) (Or.inl ⟨by rfl, ?_⟩) hHeld ?_ ?_
          rotate_left
          · rintro w' ⟨s0, s1, s2, s3, s4, s5, s6, s7, s8, s9, s10, s11, s12, s13, s14⟩
            go_simp
            with_reducible rfl
          rotate_left
          · simp only [Act.put, List.setIfInBounds_toArray, List.set_cons_zero, List.set_cons_succ, i64_w, i32_w]
            rfl
          refine one_ (i := 4) (N := some 16) #[true, true, true, true, true, false, true, true, true, true, false, false, false] rfl rfl (one_of HT_.out (by kernel_rfl)) (by decide) (fun K hK => ?_)
          refine goes_ Tryd.func8 (by kernel_rfl) rfl #[.agg #[.string ((rd_T24 l0_4 0).f0), .string ((rd_T24 l0_4 0).f1), .int .i64 ((rd_T24 l0_4 0).f2), .int .i64 ((rd_T24 l0_4 0).f3), .slice A186_4 ((rd_T24 l0_4 0).f4).length c186_4], .int .i64 0] (by rfl) rfl rfl (by (try simp only [List.map_toArray, List.map_cons, List.map_nil]); first | done | rfl | (simp only [List.length_drop, List.length_take]; rfl)) ?_
          with_reducible refine (ih k (by omega) ((rd_T24 l0_4 0).f0) ((rd_T24 l0_4 0).f1) ((rd_T24 l0_4 0).f2) ((rd_T24 l0_4 0).f3) _ _ ((rd_T24 l0_4 0).f4) 0 t187 _ ?side1 ?side2 A5.out).mono ?_
          (case side1 => repeat (first | exact (Kd.C_below HR186_4.out HB.out) | (with_reducible refine Kd.C_alloc ?_ _) | (with_reducible refine Kd.C_drewN ?_ _) | (with_reducible refine Kd.C_drew ?_)))
          (case side2 => exact HC186_4.out)
          rintro e w21 ⟨rfl, hb⟩
          refine ⟨_, rfl, ?_⟩
          have n0_ := Aside0.mk (blk_below (g := gb185) (o := .cells #[.string a0_0, .string a0_1, .int .i64 a0_2, .int .i64 a0_3, .slice (some ad186) l0_4.length c0_4] 24 (0, 0)) (by (with_reducible repeat (first | refine blk_drewN ?_ _ | refine blk_drew ?_ | refine blk_alloc ?_ _)); exact BK185.out) hb)
          have n1_ := Aside0.mk (below_step (by repeat (first | (with_reducible first | exact HB.out | apply below_alloc | apply pw_below_drewN | apply below_drew1 | refine below_set ?_ GE185.out) | exact HB.out)) hb)
          clear BK185
          clear HB
          have BK185 := n0_
          have HB := n1_
          clear n0_ n1_
          (try clear hb)
          (try clear hb2)
          (try clear hk)
          (try clear hi)
          refine hK.out _ _ ⟨(blk_cell BK185.out 0).trans rfl, (blk_cell BK185.out 1).trans rfl, (blk_cell BK185.out 2).trans rfl, (blk_cell BK185.out 3).trans rfl, (blk_cell BK185.out 4).trans rfl, ((HB.out.cell (World.block_lt_of_cell? w _ hw186_0)).trans hw186_0), ((HB.out.cell (World.block_lt_of_cell? w _ hw186_1)).trans hw186_1), ((HB.out.cell (World.block_lt_of_cell? w _ hw186_2)).trans hw186_2), ((HB.out.cell (World.block_lt_of_cell? w _ hw186_3)).trans hw186_3), ((HB.out.cell (World.block_lt_of_cell? w _ hw186_4)).trans hw186_4), ((HB.out.cell (World.block_lt_of_cell? w _ hw188_0)).trans hw188_0), ((HB.out.cell (World.block_lt_of_cell? w _ hw188_1)).trans hw188_1), ((HB.out.cell (World.block_lt_of_cell? w _ hw188_2)).trans hw188_2), ((HB.out.cell (World.block_lt_of_cell? w _ hw188_3)).trans hw188_3), ((HB.out.cell (World.block_lt_of_cell? w _ hw188_4)).trans hw188_4)⟩ (fun hHeld => ?_)
          clear hK K
          refine norm_ (a' := ?_) ?_ ?_
          rotate_left
          · show Act.put _ (some 16) _ = _
            simp only [Act.put, List.setIfInBounds_toArray, List.set_cons_zero, List.set_cons_succ, i64_w, i32_w]
            rfl
          refine pure_ (i := 5) (N := some 17) (v := ?_) (a' := ?_) #[true, true, true, true, true, true, true, true, true, true, false, false, false] rfl rfl (any_of HT_.out (by kernel_rfl)) (fun _ _ _ h => h) (Or.inl ⟨by rfl, ?_⟩) ?_ ?_
          rotate_left
          · intro w'
            go_simp
            with_reducible rfl
          rotate_left
          · simp only [Act.put, List.setIfInBounds_toArray, List.set_cons_zero, List.set_cons_succ, i64_w, i32_w]
            rfl
          refine one_ (i := 10) (N := some 22) #[true, true, true, true, true, true, true, true, true, true, true, false, false] rfl rfl (one_of HT_.out (by kernel_rfl)) (by decide) (fun K hK => ?_)
          refine goes_ Tryd.func8 (by kernel_rfl) rfl #[.agg #[.string ((rd_T24 l0_4 1).f0), .string ((rd_T24 l0_4 1).f1), .int .i64 ((rd_T24 l0_4 1).f2), .int .i64 ((rd_T24 l0_4 1).f3), .slice A188_4 ((rd_T24 l0_4 1).f4).length c188_4], .int .i64 1] (by rfl) rfl rfl (by (try simp only [List.map_toArray, List.map_cons, List.map_nil]); first | done | rfl | (simp only [List.length_drop, List.length_take]; rfl)) ?_
          with_reducible refine (ih k (by omega) ((rd_T24 l0_4 1).f0) ((rd_T24 l0_4 1).f1) ((rd_T24 l0_4 1).f2) ((rd_T24 l0_4 1).f3) _ _ ((rd_T24 l0_4 1).f4) 1 t189 _ ?side1 ?side2 A8.out).mono ?_
          (case side1 => repeat (first | exact (Kd.C_below HR188_4.out HB.out) | (with_reducible refine Kd.C_alloc ?_ _) | (with_reducible refine Kd.C_drewN ?_ _) | (with_reducible refine Kd.C_drew ?_)))
          (case side2 => exact HC188_4.out)
          rintro e w22 ⟨rfl, hb⟩
          refine ⟨_, rfl, ?_⟩
          have n0_ := Aside0.mk (blk_below (g := gb185) (o := .cells #[.string a0_0, .string a0_1, .int .i64 a0_2, .int .i64 a0_3, .slice (some ad186) l0_4.length c0_4] 24 (0, 0)) (by (with_reducible repeat (first | refine blk_drewN ?_ _ | refine blk_drew ?_ | refine blk_alloc ?_ _)); exact BK185.out) hb)
          have n1_ := Aside0.mk (below_step (by repeat (first | (with_reducible first | exact HB.out | apply below_alloc | apply pw_below_drewN | apply below_drew1 | refine below_set ?_ GE185.out) | exact HB.out)) hb)
          clear BK185
          clear HB
          have BK185 := n0_
          have HB := n1_
          clear n0_ n1_
          (try clear hb)
          (try clear hb2)
          (try clear hk)
          (try clear hi)
          refine hK.out _ _ ⟨(blk_cell BK185.out 0).trans rfl, (blk_cell BK185.out 1).trans rfl, (blk_cell BK185.out 2).trans rfl, (blk_cell BK185.out 3).trans rfl, (blk_cell BK185.out 4).trans rfl, ((HB.out.cell (World.block_lt_of_cell? w _ hw186_0)).trans hw186_0), ((HB.out.cell (World.block_lt_of_cell? w _ hw186_1)).trans hw186_1), ((HB.out.cell (World.block_lt_of_cell? w _ hw186_2)).trans hw186_2), ((HB.out.cell (World.block_lt_of_cell? w _ hw186_3)).trans hw186_3), ((HB.out.cell (World.block_lt_of_cell? w _ hw186_4)).trans hw186_4), ((HB.out.cell (World.block_lt_of_cell? w _ hw188_0)).trans hw188_0), ((HB.out.cell (World.block_lt_of_cell? w _ hw188_1)).trans hw188_1), ((HB.out.cell (World.block_lt_of_cell? w _ hw188_2)).trans hw188_2), ((HB.out.cell (World.block_lt_of_cell? w _ hw188_3)).trans hw188_3), ((HB.out.cell (World.block_lt_of_cell? w _ hw188_4)).trans hw188_4)⟩ (fun hHeld => ?_)
          clear hK K
          refine norm_ (a' := ?_) ?_ ?_
          rotate_left
          · show Act.put _ (some 22) _ = _
            simp only [Act.put, List.setIfInBounds_toArray, List.set_cons_zero, List.set_cons_succ, i64_w, i32_w]
            rfl
          refine pure_ (i := 11) (N := some 23) (v := ?_) (a' := ?_) #[true, true, true, true, true, true, true, true, true, true, true, true, false] rfl rfl (any_of HT_.out (by kernel_rfl)) (fun _ _ _ h => h) (Or.inl ⟨by rfl, ?_⟩) ?_ ?_
          rotate_left
          · intro w'
            go_simp
            with_reducible rfl
          rotate_left
          · simp only [Act.put, List.setIfInBounds_toArray, List.set_cons_zero, List.set_cons_succ, i64_w, i32_w]
            rfl
          refine pure_ (i := 12) (N := some 5) (v := ?_) (a' := ?_) #[true, true, true, true, true, true, true, true, true, true, true, true, true] rfl rfl (any_of HT_.out (by kernel_rfl)) (fun _ _ _ h => h) (Or.inl ⟨by rfl, ?_⟩) ?_ ?_
          rotate_left
          · intro w'
            go_simp
            with_reducible rfl
          rotate_left
          · simp only [Act.put, List.setIfInBounds_toArray, List.set_cons_zero, List.set_cons_succ, i64_w, i32_w]
            rfl
          refine done_ (done_of HT_.out (by kernel_rfl)) ?_
          try go_wp2
          go_ret
          exact ⟨by first | rfl | (simp [errW_none, errW_some] <;> rfl) | (simp [*, errW_none, errW_some] <;> rfl), by repeat (first | (with_reducible first | exact HB.out | apply below_alloc | apply pw_below_drewN | apply below_drew1 | refine below_set ?_ GE185.out) | exact HB.out)⟩
      · rw [if_neg c9] at H
        exact absurd H (by simp)
    · rw [if_neg c7] at H
      exact absurd H (by simp)
  · rw [if_neg c6] at H
    exact absurd H (by simp)
set_option maxHeartbeats 8000000 in
set_option maxRecDepth 100000 in
theorem patchbayref4_SiftString.arm2 (k : Nat) (ih : ∀ (m_ : Nat), m_ < k + 1 → ∀ (a0_0 : ByteArray) (a0_1 : ByteArray) (a0_2 : Int) (a0_3 : Int) (A0_4 : Option Addr) (c0_4 : Nat) (l0_4 : List (S24)) (a1 : Int) (r : ByteArray) (w : World) (hr0_4 : Kd.C k24 w A0_4 l0_4.length l0_4) (hc0_4 : l0_4.length ≤ c0_4) (h : patchbayref4_SiftString.f m_ a0_0 a0_1 a0_2 a0_3 l0_4 a1 = some r), Calls Tryd.prog 8 #[.agg #[.string a0_0, .string a0_1, .int .i64 a0_2, .int .i64 a0_3, .slice A0_4 l0_4.length c0_4], .int .i64 a1] w fun e w' => e = .returned (.string r) ∧ Below w.heap.size w w') : ∀ (a0_0 : ByteArray) (a0_1 : ByteArray) (a0_2 : Int) (a0_3 : Int) (A0_4 : Option Addr) (c0_4 : Nat) (l0_4 : List (S24)) (a1 : Int) (r : ByteArray) (w : World) (hr0_4 : Kd.C k24 w A0_4 l0_4.length l0_4) (hc0_4 : l0_4.length ≤ c0_4) (h : patchbayref4_SiftString.f (k + 1) a0_0 a0_1 a0_2 a0_3 l0_4 a1 = some r) (c3 : a0_0.toList = ([111, 114] : List UInt8)) (c4 : ¬ (0 < (l0_4.length : Int))),
    Calls Tryd.prog 8 #[.agg #[.string a0_0, .string a0_1, .int .i64 a0_2, .int .i64 a0_3, .slice A0_4 l0_4.length c0_4], .int .i64 a1] w fun e w' => e = .returned (.string r) ∧ Below w.heap.size w w' := by
  intro a0_0 a0_1 a0_2 a0_3 A0_4 c0_4 l0_4 a1 r w hr0_4 hc0_4 h c3 c4
  simp only [patchbayref4_SiftString.f] at h
  have hu24 := Tryd.underlying24
  have HR0_4 := Aside0.mk hr0_4
  have HC0_4 := Aside0.mk hc0_4
  clear hr0_4 hc0_4
  have HB := Aside0.mk (Below.refl w.heap.size w)
  have H : (if a0_0.toList = ([111, 114] : List UInt8) then (if 0 < (l0_4.length : Int) then ((patchbayref4_SiftString.f k ((rd_T24 l0_4 0).f0) ((rd_T24 l0_4 0).f1) ((rd_T24 l0_4 0).f2) ((rd_T24 l0_4 0).f3) ((rd_T24 l0_4 0).f4) 0).bind fun t187 => (if t187.size + 4 ≤ 9223372036854775807 then (if 1 < (l0_4.length : Int) then ((patchbayref4_SiftString.f k ((rd_T24 l0_4 1).f0) ((rd_T24 l0_4 1).f1) ((rd_T24 l0_4 1).f2) ((rd_T24 l0_4 1).f3) ((rd_T24 l0_4 1).f4) 1).bind fun t189 => (if (t187 ++ (⟨#[32, 111, 114, 32]⟩ : ByteArray)).size + t189.size ≤ 9223372036854775807 then (if a1 > 0 then (if 1 + ((t187 ++ (⟨#[32, 111, 114, 32]⟩ : ByteArray)) ++ t189).size ≤ 9223372036854775807 then (if ((⟨#[40]⟩ : ByteArray) ++ ((t187 ++ (⟨#[32, 111, 114, 32]⟩ : ByteArray)) ++ t189)).size + 1 ≤ 9223372036854775807 then (some (((⟨#[40]⟩ : ByteArray) ++ ((t187 ++ (⟨#[32, 111, 114, 32]⟩ : ByteArray)) ++ t189)) ++ (⟨#[41]⟩ : ByteArray))) else (none)) else (none)) else (some ((t187 ++ (⟨#[32, 111, 114, 32]⟩ : ByteArray)) ++ t189))) else (none))) else (none)) else (none))) else (none)) else (if a0_0.toList = ([97, 110, 100] : List UInt8) then (if 0 < (l0_4.length : Int) then ((patchbayref4_SiftString.f k ((rd_T24 l0_4 0).f0) ((rd_T24 l0_4 0).f1) ((rd_T24 l0_4 0).f2) ((rd_T24 l0_4 0).f3) ((rd_T24 l0_4 0).f4) 1).bind fun t191 => (if t191.size + 5 ≤ 9223372036854775807 then (if 1 < (l0_4.length : Int) then ((patchbayref4_SiftString.f k ((rd_T24 l0_4 1).f0) ((rd_T24 l0_4 1).f1) ((rd_T24 l0_4 1).f2) ((rd_T24 l0_4 1).f3) ((rd_T24 l0_4 1).f4) 2).bind fun t193 => (if (t191 ++ (⟨#[32, 97, 110, 100, 32]⟩ : ByteArray)).size + t193.size ≤ 9223372036854775807 then (if a1 > 1 then (if 1 + ((t191 ++ (⟨#[32, 97, 110, 100, 32]⟩ : ByteArray)) ++ t193).size ≤ 9223372036854775807 then (if ((⟨#[40]⟩ : ByteArray) ++ ((t191 ++ (⟨#[32, 97, 110, 100, 32]⟩ : ByteArray)) ++ t193)).size + 1 ≤ 9223372036854775807 then (some (((⟨#[40]⟩ : ByteArray) ++ ((t191 ++ (⟨#[32, 97, 110, 100, 32]⟩ : ByteArray)) ++ t193)) ++ (⟨#[41]⟩ : ByteArray))) else (none)) else (none)) else (some ((t191 ++ (⟨#[32, 97, 110, 100, 32]⟩ : ByteArray)) ++ t193))) else (none))) else (none)) else (none))) else (none)) else (if a0_0.toList = ([110, 111, 116] : List UInt8) then (if 0 < (l0_4.length : Int) then ((patchbayref4_SiftString.f k ((rd_T24 l0_4 0).f0) ((rd_T24 l0_4 0).f1) ((rd_T24 l0_4 0).f2) ((rd_T24 l0_4 0).f3) ((rd_T24 l0_4 0).f4) 2).bind fun t195 => (if 4 + t195.size ≤ 9223372036854775807 then (some ((⟨#[110, 111, 116, 32]⟩ : ByteArray) ++ t195)) else (none))) else (none)) else (if a0_0.toList = ([105, 110] : List UInt8) then ((patchbayref4_Digits.f k (wrap64 (Int.tdiv a0_2 16777216))).bind fun t196 => (if t196.size + 1 ≤ 9223372036854775807 then ((patchbayref4_Digits.f k (Int.tmod (wrap64 (Int.tdiv a0_2 65536)) 256)).bind fun t197 => (if (t196 ++ (⟨#[46]⟩ : ByteArray)).size + t197.size ≤ 9223372036854775807 then (if ((t196 ++ (⟨#[46]⟩ : ByteArray)) ++ t197).size + 1 ≤ 9223372036854775807 then ((patchbayref4_Digits.f k (Int.tmod (wrap64 (Int.tdiv a0_2 256)) 256)).bind fun t198 => (if (((t196 ++ (⟨#[46]⟩ : ByteArray)) ++ t197) ++ (⟨#[46]⟩ : ByteArray)).size + t198.size ≤ 9223372036854775807 then (if ((((t196 ++ (⟨#[46]⟩ : ByteArray)) ++ t197) ++ (⟨#[46]⟩ : ByteArray)) ++ t198).size + 1 ≤ 9223372036854775807 then ((patchbayref4_Digits.f k (Int.tmod a0_2 256)).bind fun t199 => (if (((((t196 ++ (⟨#[46]⟩ : ByteArray)) ++ t197) ++ (⟨#[46]⟩ : ByteArray)) ++ t198) ++ (⟨#[46]⟩ : ByteArray)).size + t199.size ≤ 9223372036854775807 then (if a0_1.size + 4 ≤ 9223372036854775807 then (if (a0_1 ++ (⟨#[32, 105, 110, 32]⟩ : ByteArray)).size + ((((((t196 ++ (⟨#[46]⟩ : ByteArray)) ++ t197) ++ (⟨#[46]⟩ : ByteArray)) ++ t198) ++ (⟨#[46]⟩ : ByteArray)) ++ t199).size ≤ 9223372036854775807 then (if ((a0_1 ++ (⟨#[32, 105, 110, 32]⟩ : ByteArray)) ++ ((((((t196 ++ (⟨#[46]⟩ : ByteArray)) ++ t197) ++ (⟨#[46]⟩ : ByteArray)) ++ t198) ++ (⟨#[46]⟩ : ByteArray)) ++ t199)).size + 1 ≤ 9223372036854775807 then ((patchbayref4_Digits.f k a0_3).bind fun t200 => (if (((a0_1 ++ (⟨#[32, 105, 110, 32]⟩ : ByteArray)) ++ ((((((t196 ++ (⟨#[46]⟩ : ByteArray)) ++ t197) ++ (⟨#[46]⟩ : ByteArray)) ++ t198) ++ (⟨#[46]⟩ : ByteArray)) ++ t199)) ++ (⟨#[47]⟩ : ByteArray)).size + t200.size ≤ 9223372036854775807 then (some ((((a0_1 ++ (⟨#[32, 105, 110, 32]⟩ : ByteArray)) ++ ((((((t196 ++ (⟨#[46]⟩ : ByteArray)) ++ t197) ++ (⟨#[46]⟩ : ByteArray)) ++ t198) ++ (⟨#[46]⟩ : ByteArray)) ++ t199)) ++ (⟨#[47]⟩ : ByteArray)) ++ t200)) else (none))) else (none)) else (none)) else (none)) else (none))) else (none)) else (none))) else (none)) else (none))) else (none))) else (if a0_1.size + 1 ≤ 9223372036854775807 then (if (a0_1 ++ (⟨#[32]⟩ : ByteArray)).size + a0_0.size ≤ 9223372036854775807 then (if ((a0_1 ++ (⟨#[32]⟩ : ByteArray)) ++ a0_0).size + 1 ≤ 9223372036854775807 then ((patchbayref4_Digits.f k a0_2).bind fun t201 => (if (((a0_1 ++ (⟨#[32]⟩ : ByteArray)) ++ a0_0) ++ (⟨#[32]⟩ : ByteArray)).size + t201.size ≤ 9223372036854775807 then (some ((((a0_1 ++ (⟨#[32]⟩ : ByteArray)) ++ a0_0) ++ (⟨#[32]⟩ : ByteArray)) ++ t201)) else (none))) else (none)) else (none)) else (none)))))) = some r := h
  clear h
  rw [if_pos c3] at H
  have c3b0 : (a0_0.toList == ([111, 114] : List UInt8)) = true := beq_iff_eq.mpr c3
  have c3b1 : (a0_0.toList != ([111, 114] : List UInt8)) = false := bne_eq_false_iff_eq.mpr c3
  clear c3
  rw [if_neg c4] at H
  exact absurd H (by simp)
set_option maxHeartbeats 8000000 in
set_option maxRecDepth 100000 in
theorem patchbayref4_SiftString.arm3 (k : Nat) (ih : ∀ (m_ : Nat), m_ < k + 1 → ∀ (a0_0 : ByteArray) (a0_1 : ByteArray) (a0_2 : Int) (a0_3 : Int) (A0_4 : Option Addr) (c0_4 : Nat) (l0_4 : List (S24)) (a1 : Int) (r : ByteArray) (w : World) (hr0_4 : Kd.C k24 w A0_4 l0_4.length l0_4) (hc0_4 : l0_4.length ≤ c0_4) (h : patchbayref4_SiftString.f m_ a0_0 a0_1 a0_2 a0_3 l0_4 a1 = some r), Calls Tryd.prog 8 #[.agg #[.string a0_0, .string a0_1, .int .i64 a0_2, .int .i64 a0_3, .slice A0_4 l0_4.length c0_4], .int .i64 a1] w fun e w' => e = .returned (.string r) ∧ Below w.heap.size w w') : ∀ (a0_0 : ByteArray) (a0_1 : ByteArray) (a0_2 : Int) (a0_3 : Int) (A0_4 : Option Addr) (c0_4 : Nat) (l0_4 : List (S24)) (a1 : Int) (r : ByteArray) (w : World) (hr0_4 : Kd.C k24 w A0_4 l0_4.length l0_4) (hc0_4 : l0_4.length ≤ c0_4) (h : patchbayref4_SiftString.f (k + 1) a0_0 a0_1 a0_2 a0_3 l0_4 a1 = some r) (c3 : ¬ (a0_0.toList = ([111, 114] : List UInt8))) (c23 : a0_0.toList = ([97, 110, 100] : List UInt8)),
    Calls Tryd.prog 8 #[.agg #[.string a0_0, .string a0_1, .int .i64 a0_2, .int .i64 a0_3, .slice A0_4 l0_4.length c0_4], .int .i64 a1] w fun e w' => e = .returned (.string r) ∧ Below w.heap.size w w' := by
  intro a0_0 a0_1 a0_2 a0_3 A0_4 c0_4 l0_4 a1 r w hr0_4 hc0_4 h c3 c23
  simp only [patchbayref4_SiftString.f] at h
  have hu24 := Tryd.underlying24
  have HR0_4 := Aside0.mk hr0_4
  have HC0_4 := Aside0.mk hc0_4
  clear hr0_4 hc0_4
  have HB := Aside0.mk (Below.refl w.heap.size w)
  have H : (if a0_0.toList = ([111, 114] : List UInt8) then (if 0 < (l0_4.length : Int) then ((patchbayref4_SiftString.f k ((rd_T24 l0_4 0).f0) ((rd_T24 l0_4 0).f1) ((rd_T24 l0_4 0).f2) ((rd_T24 l0_4 0).f3) ((rd_T24 l0_4 0).f4) 0).bind fun t187 => (if t187.size + 4 ≤ 9223372036854775807 then (if 1 < (l0_4.length : Int) then ((patchbayref4_SiftString.f k ((rd_T24 l0_4 1).f0) ((rd_T24 l0_4 1).f1) ((rd_T24 l0_4 1).f2) ((rd_T24 l0_4 1).f3) ((rd_T24 l0_4 1).f4) 1).bind fun t189 => (if (t187 ++ (⟨#[32, 111, 114, 32]⟩ : ByteArray)).size + t189.size ≤ 9223372036854775807 then (if a1 > 0 then (if 1 + ((t187 ++ (⟨#[32, 111, 114, 32]⟩ : ByteArray)) ++ t189).size ≤ 9223372036854775807 then (if ((⟨#[40]⟩ : ByteArray) ++ ((t187 ++ (⟨#[32, 111, 114, 32]⟩ : ByteArray)) ++ t189)).size + 1 ≤ 9223372036854775807 then (some (((⟨#[40]⟩ : ByteArray) ++ ((t187 ++ (⟨#[32, 111, 114, 32]⟩ : ByteArray)) ++ t189)) ++ (⟨#[41]⟩ : ByteArray))) else (none)) else (none)) else (some ((t187 ++ (⟨#[32, 111, 114, 32]⟩ : ByteArray)) ++ t189))) else (none))) else (none)) else (none))) else (none)) else (if a0_0.toList = ([97, 110, 100] : List UInt8) then (if 0 < (l0_4.length : Int) then ((patchbayref4_SiftString.f k ((rd_T24 l0_4 0).f0) ((rd_T24 l0_4 0).f1) ((rd_T24 l0_4 0).f2) ((rd_T24 l0_4 0).f3) ((rd_T24 l0_4 0).f4) 1).bind fun t191 => (if t191.size + 5 ≤ 9223372036854775807 then (if 1 < (l0_4.length : Int) then ((patchbayref4_SiftString.f k ((rd_T24 l0_4 1).f0) ((rd_T24 l0_4 1).f1) ((rd_T24 l0_4 1).f2) ((rd_T24 l0_4 1).f3) ((rd_T24 l0_4 1).f4) 2).bind fun t193 => (if (t191 ++ (⟨#[32, 97, 110, 100, 32]⟩ : ByteArray)).size + t193.size ≤ 9223372036854775807 then (if a1 > 1 then (if 1 + ((t191 ++ (⟨#[32, 97, 110, 100, 32]⟩ : ByteArray)) ++ t193).size ≤ 9223372036854775807 then (if ((⟨#[40]⟩ : ByteArray) ++ ((t191 ++ (⟨#[32, 97, 110, 100, 32]⟩ : ByteArray)) ++ t193)).size + 1 ≤ 9223372036854775807 then (some (((⟨#[40]⟩ : ByteArray) ++ ((t191 ++ (⟨#[32, 97, 110, 100, 32]⟩ : ByteArray)) ++ t193)) ++ (⟨#[41]⟩ : ByteArray))) else (none)) else (none)) else (some ((t191 ++ (⟨#[32, 97, 110, 100, 32]⟩ : ByteArray)) ++ t193))) else (none))) else (none)) else (none))) else (none)) else (if a0_0.toList = ([110, 111, 116] : List UInt8) then (if 0 < (l0_4.length : Int) then ((patchbayref4_SiftString.f k ((rd_T24 l0_4 0).f0) ((rd_T24 l0_4 0).f1) ((rd_T24 l0_4 0).f2) ((rd_T24 l0_4 0).f3) ((rd_T24 l0_4 0).f4) 2).bind fun t195 => (if 4 + t195.size ≤ 9223372036854775807 then (some ((⟨#[110, 111, 116, 32]⟩ : ByteArray) ++ t195)) else (none))) else (none)) else (if a0_0.toList = ([105, 110] : List UInt8) then ((patchbayref4_Digits.f k (wrap64 (Int.tdiv a0_2 16777216))).bind fun t196 => (if t196.size + 1 ≤ 9223372036854775807 then ((patchbayref4_Digits.f k (Int.tmod (wrap64 (Int.tdiv a0_2 65536)) 256)).bind fun t197 => (if (t196 ++ (⟨#[46]⟩ : ByteArray)).size + t197.size ≤ 9223372036854775807 then (if ((t196 ++ (⟨#[46]⟩ : ByteArray)) ++ t197).size + 1 ≤ 9223372036854775807 then ((patchbayref4_Digits.f k (Int.tmod (wrap64 (Int.tdiv a0_2 256)) 256)).bind fun t198 => (if (((t196 ++ (⟨#[46]⟩ : ByteArray)) ++ t197) ++ (⟨#[46]⟩ : ByteArray)).size + t198.size ≤ 9223372036854775807 then (if ((((t196 ++ (⟨#[46]⟩ : ByteArray)) ++ t197) ++ (⟨#[46]⟩ : ByteArray)) ++ t198).size + 1 ≤ 9223372036854775807 then ((patchbayref4_Digits.f k (Int.tmod a0_2 256)).bind fun t199 => (if (((((t196 ++ (⟨#[46]⟩ : ByteArray)) ++ t197) ++ (⟨#[46]⟩ : ByteArray)) ++ t198) ++ (⟨#[46]⟩ : ByteArray)).size + t199.size ≤ 9223372036854775807 then (if a0_1.size + 4 ≤ 9223372036854775807 then (if (a0_1 ++ (⟨#[32, 105, 110, 32]⟩ : ByteArray)).size + ((((((t196 ++ (⟨#[46]⟩ : ByteArray)) ++ t197) ++ (⟨#[46]⟩ : ByteArray)) ++ t198) ++ (⟨#[46]⟩ : ByteArray)) ++ t199).size ≤ 9223372036854775807 then (if ((a0_1 ++ (⟨#[32, 105, 110, 32]⟩ : ByteArray)) ++ ((((((t196 ++ (⟨#[46]⟩ : ByteArray)) ++ t197) ++ (⟨#[46]⟩ : ByteArray)) ++ t198) ++ (⟨#[46]⟩ : ByteArray)) ++ t199)).size + 1 ≤ 9223372036854775807 then ((patchbayref4_Digits.f k a0_3).bind fun t200 => (if (((a0_1 ++ (⟨#[32, 105, 110, 32]⟩ : ByteArray)) ++ ((((((t196 ++ (⟨#[46]⟩ : ByteArray)) ++ t197) ++ (⟨#[46]⟩ : ByteArray)) ++ t198) ++ (⟨#[46]⟩ : ByteArray)) ++ t199)) ++ (⟨#[47]⟩ : ByteArray)).size + t200.size ≤ 9223372036854775807 then (some ((((a0_1 ++ (⟨#[32, 105, 110, 32]⟩ : ByteArray)) ++ ((((((t196 ++ (⟨#[46]⟩ : ByteArray)) ++ t197) ++ (⟨#[46]⟩ : ByteArray)) ++ t198) ++ (⟨#[46]⟩ : ByteArray)) ++ t199)) ++ (⟨#[47]⟩ : ByteArray)) ++ t200)) else (none))) else (none)) else (none)) else (none)) else (none))) else (none)) else (none))) else (none)) else (none))) else (none))) else (if a0_1.size + 1 ≤ 9223372036854775807 then (if (a0_1 ++ (⟨#[32]⟩ : ByteArray)).size + a0_0.size ≤ 9223372036854775807 then (if ((a0_1 ++ (⟨#[32]⟩ : ByteArray)) ++ a0_0).size + 1 ≤ 9223372036854775807 then ((patchbayref4_Digits.f k a0_2).bind fun t201 => (if (((a0_1 ++ (⟨#[32]⟩ : ByteArray)) ++ a0_0) ++ (⟨#[32]⟩ : ByteArray)).size + t201.size ≤ 9223372036854775807 then (some ((((a0_1 ++ (⟨#[32]⟩ : ByteArray)) ++ a0_0) ++ (⟨#[32]⟩ : ByteArray)) ++ t201)) else (none))) else (none)) else (none)) else (none)))))) = some r := h
  clear h
  rw [if_neg c3] at H
  have c3b0 : (a0_0.toList == ([111, 114] : List UInt8)) = false := beq_eq_false_iff_ne.mpr c3
  have c3b1 : (a0_0.toList != ([111, 114] : List UInt8)) = true := bne_iff_ne.mpr c3
  rw [if_pos c23] at H
  have c23b0 : (a0_0.toList == ([97, 110, 100] : List UInt8)) = true := beq_iff_eq.mpr c23
  have c23b1 : (a0_0.toList != ([97, 110, 100] : List UInt8)) = false := bne_eq_false_iff_eq.mpr c23
  clear c23
  by_cases c24 : 0 < (l0_4.length : Int)
  · rw [if_pos c24] at H
    have c24b0 : decide (0 < (l0_4.length : Int)) = true := decide_eq_true c24
    have c24b1 : decide (0 < l0_4.length) = true := decide_eq_true (by omega)
    clear c24
    replace H := Option.bind_eq_some_iff.mp H
    obtain ⟨t191, A250, H⟩ := H
    replace H : (if t191.size + 5 ≤ 9223372036854775807 then (if 1 < (l0_4.length : Int) then ((patchbayref4_SiftString.f k ((rd_T24 l0_4 1).f0) ((rd_T24 l0_4 1).f1) ((rd_T24 l0_4 1).f2) ((rd_T24 l0_4 1).f3) ((rd_T24 l0_4 1).f4) 2).bind fun t193 => (if (t191 ++ (⟨#[32, 97, 110, 100, 32]⟩ : ByteArray)).size + t193.size ≤ 9223372036854775807 then (if a1 > 1 then (if 1 + ((t191 ++ (⟨#[32, 97, 110, 100, 32]⟩ : ByteArray)) ++ t193).size ≤ 9223372036854775807 then (if ((⟨#[40]⟩ : ByteArray) ++ ((t191 ++ (⟨#[32, 97, 110, 100, 32]⟩ : ByteArray)) ++ t193)).size + 1 ≤ 9223372036854775807 then (some (((⟨#[40]⟩ : ByteArray) ++ ((t191 ++ (⟨#[32, 97, 110, 100, 32]⟩ : ByteArray)) ++ t193)) ++ (⟨#[41]⟩ : ByteArray))) else (none)) else (none)) else (some ((t191 ++ (⟨#[32, 97, 110, 100, 32]⟩ : ByteArray)) ++ t193))) else (none))) else (none)) else (none)) = some r := H
    have A25 := Aside0.mk A250
    clear A250
    by_cases c26 : t191.size + 5 ≤ 9223372036854775807
    · rw [if_pos c26] at H
      have c26b0 := eq_true c26
      have c26b1 : decide (t191.size + 5 ≤ 9223372036854775807) = true := decide_eq_true c26
      try have c26b2 : (9223372036854775807 < t191.size + 5) = False := eq_false (Nat.not_lt.2 c26)
      by_cases c27 : 1 < (l0_4.length : Int)
      · rw [if_pos c27] at H
        have c27b0 : decide (1 < (l0_4.length : Int)) = true := decide_eq_true c27
        have c27b1 : decide (1 < l0_4.length) = true := decide_eq_true (by omega)
        clear c27
        replace H := Option.bind_eq_some_iff.mp H
        obtain ⟨t193, A280, H⟩ := H
        replace H : (if (t191 ++ (⟨#[32, 97, 110, 100, 32]⟩ : ByteArray)).size + t193.size ≤ 9223372036854775807 then (if a1 > 1 then (if 1 + ((t191 ++ (⟨#[32, 97, 110, 100, 32]⟩ : ByteArray)) ++ t193).size ≤ 9223372036854775807 then (if ((⟨#[40]⟩ : ByteArray) ++ ((t191 ++ (⟨#[32, 97, 110, 100, 32]⟩ : ByteArray)) ++ t193)).size + 1 ≤ 9223372036854775807 then (some (((⟨#[40]⟩ : ByteArray) ++ ((t191 ++ (⟨#[32, 97, 110, 100, 32]⟩ : ByteArray)) ++ t193)) ++ (⟨#[41]⟩ : ByteArray))) else (none)) else (none)) else (some ((t191 ++ (⟨#[32, 97, 110, 100, 32]⟩ : ByteArray)) ++ t193))) else (none)) = some r := H
        have A28 := Aside0.mk A280
        clear A280
        by_cases c29 : (t191 ++ (⟨#[32, 97, 110, 100, 32]⟩ : ByteArray)).size + t193.size ≤ 9223372036854775807
        · rw [if_pos c29] at H
          have c29b0 := eq_true c29
          have c29b1 : decide ((t191 ++ (⟨#[32, 97, 110, 100, 32]⟩ : ByteArray)).size + t193.size ≤ 9223372036854775807) = true := decide_eq_true c29
          try have c29b2 : (9223372036854775807 < (t191 ++ (⟨#[32, 97, 110, 100, 32]⟩ : ByteArray)).size + t193.size) = False := eq_false (Nat.not_lt.2 c29)
          try (have c29b4 := c29b2; simp only [ByteArray.size_append, show (⟨#[32, 97, 110, 100, 32]⟩ : ByteArray).size = 5 from rfl] at c29b4)
          try (have c29b5 := c29b2; simp only [ByteArray.size_append, show (⟨#[32, 97, 110, 100, 32]⟩ : ByteArray).size = 5 from rfl, Nat.add_assoc, Nat.reduceAdd] at c29b5)
          try (have c29b3 := c29b2; simp only [ByteArray.size_append] at c29b3)
          by_cases c30 : a1 > 1
          · rw [if_pos c30] at H
            have c30b0 : decide (1 < a1) = true := decide_eq_true c30
            clear c30
            by_cases c31 : 1 + ((t191 ++ (⟨#[32, 97, 110, 100, 32]⟩ : ByteArray)) ++ t193).size ≤ 9223372036854775807
            · rw [if_pos c31] at H
              have c31b0 := eq_true c31
              have c31b1 : decide (1 + ((t191 ++ (⟨#[32, 97, 110, 100, 32]⟩ : ByteArray)) ++ t193).size ≤ 9223372036854775807) = true := decide_eq_true c31
              try have c31b2 : (9223372036854775807 < 1 + ((t191 ++ (⟨#[32, 97, 110, 100, 32]⟩ : ByteArray)) ++ t193).size) = False := eq_false (Nat.not_lt.2 c31)
              try (have c31b4 := c31b2; simp only [ByteArray.size_append, show (⟨#[32, 97, 110, 100, 32]⟩ : ByteArray).size = 5 from rfl] at c31b4)
              try (have c31b5 := c31b2; simp only [ByteArray.size_append, show (⟨#[32, 97, 110, 100, 32]⟩ : ByteArray).size = 5 from rfl, Nat.add_assoc, Nat.reduceAdd] at c31b5)
              try (have c31b3 := c31b2; simp only [ByteArray.size_append] at c31b3)
              by_cases c32 : ((⟨#[40]⟩ : ByteArray) ++ ((t191 ++ (⟨#[32, 97, 110, 100, 32]⟩ : ByteArray)) ++ t193)).size + 1 ≤ 9223372036854775807
              · rw [if_pos c32] at H
                have c32b0 := eq_true c32
                have c32b1 : decide (((⟨#[40]⟩ : ByteArray) ++ ((t191 ++ (⟨#[32, 97, 110, 100, 32]⟩ : ByteArray)) ++ t193)).size + 1 ≤ 9223372036854775807) = true := decide_eq_true c32
                try have c32b2 : (9223372036854775807 < ((⟨#[40]⟩ : ByteArray) ++ ((t191 ++ (⟨#[32, 97, 110, 100, 32]⟩ : ByteArray)) ++ t193)).size + 1) = False := eq_false (Nat.not_lt.2 c32)
                try (have c32b4 := c32b2; simp only [ByteArray.size_append, show (⟨#[32, 97, 110, 100, 32]⟩ : ByteArray).size = 5 from rfl, show (⟨#[40]⟩ : ByteArray).size = 1 from rfl] at c32b4)
                try (have c32b5 := c32b2; simp only [ByteArray.size_append, show (⟨#[32, 97, 110, 100, 32]⟩ : ByteArray).size = 5 from rfl, show (⟨#[40]⟩ : ByteArray).size = 1 from rfl, Nat.add_assoc, Nat.reduceAdd] at c32b5)
                try (have c32b3 := c32b2; simp only [ByteArray.size_append] at c32b3)
                obtain rfl := Option.some.inj H
                go_enter Tryd.func8, Tryd.ntmps8
                try go_wp2_with (first | ((with_reducible refine gate_dst (N := 2) rfl ?_); refine box_event ?hg (N := 2) ?hd (cs := #[.string a0_0, .string a0_1, .int .i64 a0_2, .int .i64 a0_3, .slice A0_4 l0_4.length c0_4]) (t := 24) ?hr ?_; (case hd => rfl); (case hg => rfl); (case hr => first | (go_simp; done) | (go_simp; rfl)); intro gb185 hg w33 hbox hb; have n0_ := Aside0.mk (below_step (by repeat (first | (with_reducible first | exact HB.out | apply below_alloc | apply pw_below_drewN | apply below_drew1) | exact HB.out)) hb); have n1_ := Aside0.mk (hbox); have n2_ := Aside0.mk ((by rw [hg]; exact (below_size (by repeat (first | (with_reducible first | exact HB.out | apply below_alloc | apply pw_below_drewN | apply below_drew1) | exact HB.out))) : w.heap.size ≤ gb185)); have n3_ := Aside0.mk ((by rw [hg]; exact (below_size (by repeat (first | (with_reducible first | exact HB.out | apply below_alloc | apply pw_below_drewN | apply below_drew1) | exact HB.out))) : w.heap.size ≤ gb185)); clear HB; have HB := n0_; have BK185 := n1_; have GW185 := n2_; have GE185 := n3_; clear n0_ n1_ n2_ n3_; clear hb hbox hg; have hcz34_0 : w33.cell? ⟨gb185, 0, none⟩ = some (.string a0_0) := (blk_cell BK185.out 0).trans rfl; have hcz34_1 : w33.cell? ⟨gb185, 1, none⟩ = some (.string a0_1) := (blk_cell BK185.out 1).trans rfl; have hcz34_2 : w33.cell? ⟨gb185, 2, none⟩ = some (.int .i64 a0_2) := (blk_cell BK185.out 2).trans rfl; have hcz34_3 : w33.cell? ⟨gb185, 3, none⟩ = some (.int .i64 a0_3) := (blk_cell BK185.out 3).trans rfl; have hcz34_4 : w33.cell? ⟨gb185, 4, none⟩ = some (.slice A0_4 l0_4.length c0_4) := (blk_cell BK185.out 4).trans rfl; have hfz34_0 := blk_frozen BK185.out 0; have hfz34_1 := blk_frozen BK185.out 1; have hfz34_2 := blk_frozen BK185.out 2; have hfz34_3 := blk_frozen BK185.out 3; have hfz34_4 := blk_frozen BK185.out 4))
                have n0_ := Aside0.mk (blk_drew BK185.out)
                have n1_ := Aside0.mk (below_drew1 HB.out)
                clear BK185
                clear HB
                have BK185 := n0_
                have HB := n1_
                clear n0_ n1_
                have p190 : 0 ≤ (0 : Int) := (by omega)
                have q190 : 0 < (l0_4.length : Int) := of_decide_eq_true (by first | (with_reducible assumption) | assumption)
                obtain ⟨ad190, A190_4, c190_4, e190, hx190_0, hx190_1, hx190_2, hx190_3, hx190_4, hl190_4, hi190_4⟩ := at_T24 HR0_4.out 0 p190 q190
                have hw190_4 := hx190_4
                (try rw [show ((0 : Int)).toNat = 0 from rfl] at hw190_4)
                (try rw [show 0 * 5 = 0 from rfl] at hw190_4)
                (try rw [Addr.add_zero'] at hw190_4)
                have hw190_3 := hx190_3
                (try rw [show ((0 : Int)).toNat = 0 from rfl] at hw190_3)
                (try rw [show 0 * 5 = 0 from rfl] at hw190_3)
                (try rw [Addr.add_zero'] at hw190_3)
                have hw190_2 := hx190_2
                (try rw [show ((0 : Int)).toNat = 0 from rfl] at hw190_2)
                (try rw [show 0 * 5 = 0 from rfl] at hw190_2)
                (try rw [Addr.add_zero'] at hw190_2)
                have hw190_1 := hx190_1
                (try rw [show ((0 : Int)).toNat = 0 from rfl] at hw190_1)
                (try rw [show 0 * 5 = 0 from rfl] at hw190_1)
                (try rw [Addr.add_zero'] at hw190_1)
                have hw190_0 := hx190_0
                (try rw [show ((0 : Int)).toNat = 0 from rfl] at hw190_0)
                (try rw [show 0 * 5 = 0 from rfl] at hw190_0)
                (try rw [Addr.add_zero'] at hw190_0)
                cases e190
                have qi190 : (0 < l0_4.length) = True := eq_true (by omega)
                (try rw [show ((0 : Int)).toNat = 0 from rfl] at hx190_0)
                (try rw [show 0 * 5 = 0 from rfl] at hx190_0)
                (try rw [Addr.add_zero'] at hx190_0)
                (try rw [show ((0 : Int)).toNat = 0 from rfl] at hx190_1)
                (try rw [show 0 * 5 = 0 from rfl] at hx190_1)
                (try rw [Addr.add_zero'] at hx190_1)
                (try rw [show ((0 : Int)).toNat = 0 from rfl] at hx190_2)
                (try rw [show 0 * 5 = 0 from rfl] at hx190_2)
                (try rw [Addr.add_zero'] at hx190_2)
                (try rw [show ((0 : Int)).toNat = 0 from rfl] at hx190_3)
                (try rw [show 0 * 5 = 0 from rfl] at hx190_3)
                (try rw [Addr.add_zero'] at hx190_3)
                (try rw [show ((0 : Int)).toNat = 0 from rfl] at hx190_4)
                (try rw [show 0 * 5 = 0 from rfl] at hx190_4)
                (try rw [Addr.add_zero'] at hx190_4)
                replace hx190_0 := (HB.out.cell (World.block_lt_of_cell? w _ hx190_0)).trans hx190_0
                replace hx190_1 := (HB.out.cell (World.block_lt_of_cell? w _ hx190_1)).trans hx190_1
                replace hx190_2 := (HB.out.cell (World.block_lt_of_cell? w _ hx190_2)).trans hx190_2
                replace hx190_3 := (HB.out.cell (World.block_lt_of_cell? w _ hx190_3)).trans hx190_3
                replace hx190_4 := (HB.out.cell (World.block_lt_of_cell? w _ hx190_4)).trans hx190_4
                have HR190_4 := Aside0.mk hi190_4
                have HC190_4 := Aside0.mk hl190_4
                clear hi190_4 hl190_4
                replace p190 := eq_true p190
                replace q190 := eq_true q190
                have p192 : 0 ≤ (1 : Int) := (by omega)
                have q192 : 1 < (l0_4.length : Int) := of_decide_eq_true (by first | (with_reducible assumption) | assumption)
                obtain ⟨ad192, A192_4, c192_4, e192, hx192_0, hx192_1, hx192_2, hx192_3, hx192_4, hl192_4, hi192_4⟩ := at_T24 HR0_4.out 1 p192 q192
                have hw192_4 := hx192_4
                (try rw [show ((1 : Int)).toNat = 1 from rfl] at hw192_4)
                (try rw [show 1 * 5 = 5 from rfl] at hw192_4)
                (try simp only [Nat.reduceMul, Nat.reduceEqDiff, Go.Addr.add, ↓reduceIte] at hw192_4)
                have hw192_3 := hx192_3
                (try rw [show ((1 : Int)).toNat = 1 from rfl] at hw192_3)
                (try rw [show 1 * 5 = 5 from rfl] at hw192_3)
                (try simp only [Nat.reduceMul, Nat.reduceEqDiff, Go.Addr.add, ↓reduceIte] at hw192_3)
                have hw192_2 := hx192_2
                (try rw [show ((1 : Int)).toNat = 1 from rfl] at hw192_2)
                (try rw [show 1 * 5 = 5 from rfl] at hw192_2)
                (try simp only [Nat.reduceMul, Nat.reduceEqDiff, Go.Addr.add, ↓reduceIte] at hw192_2)
                have hw192_1 := hx192_1
                (try rw [show ((1 : Int)).toNat = 1 from rfl] at hw192_1)
                (try rw [show 1 * 5 = 5 from rfl] at hw192_1)
                (try simp only [Nat.reduceMul, Nat.reduceEqDiff, Go.Addr.add, ↓reduceIte] at hw192_1)
                have hw192_0 := hx192_0
                (try rw [show ((1 : Int)).toNat = 1 from rfl] at hw192_0)
                (try rw [show 1 * 5 = 5 from rfl] at hw192_0)
                (try simp only [Nat.reduceMul, Nat.reduceEqDiff, Go.Addr.add, ↓reduceIte] at hw192_0)
                obtain rfl : ad190 = ad192 := (by injection e192)
                (try simp only [show (1 : Int).toNat = 1 from rfl, Nat.reduceMul, Nat.reduceEqDiff, Go.Addr.add, ↓reduceIte] at hx192_0)
                (try simp only [show (1 : Int).toNat = 1 from rfl, Nat.reduceMul, Nat.reduceEqDiff, Go.Addr.add, ↓reduceIte] at hx192_1)
                (try simp only [show (1 : Int).toNat = 1 from rfl, Nat.reduceMul, Nat.reduceEqDiff, Go.Addr.add, ↓reduceIte] at hx192_2)
                (try simp only [show (1 : Int).toNat = 1 from rfl, Nat.reduceMul, Nat.reduceEqDiff, Go.Addr.add, ↓reduceIte] at hx192_3)
                (try simp only [show (1 : Int).toNat = 1 from rfl, Nat.reduceMul, Nat.reduceEqDiff, Go.Addr.add, ↓reduceIte] at hx192_4)
                have qi192 : (1 < l0_4.length) = True := eq_true (by omega)
                (try rw [show ((1 : Int)).toNat = 1 from rfl] at hx192_0)
                (try rw [show 1 * 5 = 5 from rfl] at hx192_0)
                (try rw [show ((1 : Int)).toNat = 1 from rfl] at hx192_1)
                (try rw [show 1 * 5 = 5 from rfl] at hx192_1)
                (try rw [show ((1 : Int)).toNat = 1 from rfl] at hx192_2)
                (try rw [show 1 * 5 = 5 from rfl] at hx192_2)
                (try rw [show ((1 : Int)).toNat = 1 from rfl] at hx192_3)
                (try rw [show 1 * 5 = 5 from rfl] at hx192_3)
                (try rw [show ((1 : Int)).toNat = 1 from rfl] at hx192_4)
                (try rw [show 1 * 5 = 5 from rfl] at hx192_4)
                replace hx192_0 := (HB.out.cell (World.block_lt_of_cell? w _ hx192_0)).trans hx192_0
                replace hx192_1 := (HB.out.cell (World.block_lt_of_cell? w _ hx192_1)).trans hx192_1
                replace hx192_2 := (HB.out.cell (World.block_lt_of_cell? w _ hx192_2)).trans hx192_2
                replace hx192_3 := (HB.out.cell (World.block_lt_of_cell? w _ hx192_3)).trans hx192_3
                replace hx192_4 := (HB.out.cell (World.block_lt_of_cell? w _ hx192_4)).trans hx192_4
                have HR192_4 := Aside0.mk hi192_4
                have HC192_4 := Aside0.mk hl192_4
                clear hi192_4 hl192_4
                replace p192 := eq_true p192
                replace q192 := eq_true q192
                refine start_ (n := 13) (S := fun w' => w'.cell? ⟨gb185, 0, none⟩ = some (.string a0_0) ∧ w'.cell? ⟨gb185, 1, none⟩ = some (.string a0_1) ∧ w'.cell? ⟨gb185, 2, none⟩ = some (.int .i64 a0_2) ∧ w'.cell? ⟨gb185, 3, none⟩ = some (.int .i64 a0_3) ∧ w'.cell? ⟨gb185, 4, none⟩ = some (.slice (some ad190) l0_4.length c0_4) ∧ w'.cell? ad190 = some (.string ((rd_T24 l0_4 0).f0)) ∧ w'.cell? ⟨ad190.block, ad190.off + 1, none⟩ = some (.string ((rd_T24 l0_4 0).f1)) ∧ w'.cell? ⟨ad190.block, ad190.off + 2, none⟩ = some (.int .i64 ((rd_T24 l0_4 0).f2)) ∧ w'.cell? ⟨ad190.block, ad190.off + 3, none⟩ = some (.int .i64 ((rd_T24 l0_4 0).f3)) ∧ w'.cell? ⟨ad190.block, ad190.off + 4, none⟩ = some (.slice A190_4 ((rd_T24 l0_4 0).f4).length c190_4) ∧ w'.cell? ⟨ad190.block, ad190.off + 5, none⟩ = some (.string ((rd_T24 l0_4 1).f0)) ∧ w'.cell? ⟨ad190.block, ad190.off + 5 + 1, none⟩ = some (.string ((rd_T24 l0_4 1).f1)) ∧ w'.cell? ⟨ad190.block, ad190.off + 5 + 2, none⟩ = some (.int .i64 ((rd_T24 l0_4 1).f2)) ∧ w'.cell? ⟨ad190.block, ad190.off + 5 + 3, none⟩ = some (.int .i64 ((rd_T24 l0_4 1).f3)) ∧ w'.cell? ⟨ad190.block, ad190.off + 5 + 4, none⟩ = some (.slice A192_4 ((rd_T24 l0_4 1).f4).length c192_4)) (ds := []) #[false, false, false, false, false, false, false, false, false, false, false, false, false] (by kernel_rfl) rfl rfl ⟨(blk_cell BK185.out 0).trans rfl, (blk_cell BK185.out 1).trans rfl, (blk_cell BK185.out 2).trans rfl, (blk_cell BK185.out 3).trans rfl, (blk_cell BK185.out 4).trans rfl, ((HB.out.cell (World.block_lt_of_cell? w _ hw190_0)).trans hw190_0), ((HB.out.cell (World.block_lt_of_cell? w _ hw190_1)).trans hw190_1), ((HB.out.cell (World.block_lt_of_cell? w _ hw190_2)).trans hw190_2), ((HB.out.cell (World.block_lt_of_cell? w _ hw190_3)).trans hw190_3), ((HB.out.cell (World.block_lt_of_cell? w _ hw190_4)).trans hw190_4), ((HB.out.cell (World.block_lt_of_cell? w _ hw192_0)).trans hw192_0), ((HB.out.cell (World.block_lt_of_cell? w _ hw192_1)).trans hw192_1), ((HB.out.cell (World.block_lt_of_cell? w _ hw192_2)).trans hw192_2), ((HB.out.cell (World.block_lt_of_cell? w _ hw192_3)).trans hw192_3), ((HB.out.cell (World.block_lt_of_cell? w _ hw192_4)).trans hw192_4)⟩ (fun hHeld => ?_); refine with_tabW patchbayref4_SiftString.tab9 patchbayref4_SiftString.bits9 (fun HT_ HW_ => ?_)
                generalize w33.drew = w35 at BK185 HB HR190_4 HR192_4 hx190_0 hx190_1 hx190_2 hx190_3 hx190_4 hx192_0 hx192_1 hx192_2 hx192_3 hx192_4 hHeld ⊢
                refine pure_ (i := 0) (N := some 32) (v := ?_) (a' := ?_) #[true, false, false, false, false, false, false, false, false, false, false, false, false] rfl rfl (any_of HT_.out (by kernel_rfl)) (fun _ _ _ h => h) (Or.inl ⟨by rfl, ?_⟩) ?_ ?_
                rotate_left
                · intro w'
                  go_simp
                  with_reducible rfl
                rotate_left
                · simp only [Act.put, List.setIfInBounds_toArray, List.set_cons_zero, List.set_cons_succ, i64_w, i32_w]
                  rfl
                refine pure_ (i := 6) (N := some 38) (v := ?_) (a' := ?_) #[true, false, false, false, false, false, true, false, false, false, false, false, false] rfl rfl (any_of HT_.out (by kernel_rfl)) (fun _ _ _ h => h) (Or.inl ⟨by rfl, ?_⟩) ?_ ?_
                rotate_left
                · intro w'
                  go_simp
                  with_reducible rfl
                rotate_left
                · simp only [Act.put, List.setIfInBounds_toArray, List.set_cons_zero, List.set_cons_succ, i64_w, i32_w]
                  rfl
                refine take_ (i := 1) (N := some 33) (v := ?_) (a' := ?_) #[true, true, false, false, false, false, true, false, false, false, false, false, false] rfl rfl (take_ofW HT_.out HW_.out (by kernel_rfl)) (fun _ _ _ h => h) (Or.inl ⟨by rfl, ?_⟩) hHeld ?_ ?_
                rotate_left
                · rintro w' ⟨s0, s1, s2, s3, s4, s5, s6, s7, s8, s9, s10, s11, s12, s13, s14⟩
                  go_simp
                  with_reducible rfl
                rotate_left
                · simp only [Act.put, List.setIfInBounds_toArray, List.set_cons_zero, List.set_cons_succ, i64_w, i32_w]
                  rfl
                refine pure_ (i := 2) (N := some 34) (v := ?_) (a' := ?_) #[true, true, true, false, false, false, true, false, false, false, false, false, false] rfl rfl (any_of HT_.out (by kernel_rfl)) (fun _ _ _ h => h) (Or.inl ⟨by rfl, ?_⟩) ?_ ?_
                rotate_left
                · intro w'
                  go_simp
                  with_reducible rfl
                rotate_left
                · simp only [Act.put, List.setIfInBounds_toArray, List.set_cons_zero, List.set_cons_succ, i64_w, i32_w]
                  rfl
                refine take_ (i := 3) (N := some 35) (v := ?_) (a' := ?_) #[true, true, true, true, false, false, true, false, false, false, false, false, false] rfl rfl (take_ofW HT_.out HW_.out (by kernel_rfl)) (fun _ _ _ h => h) (Or.inl ⟨by rfl, ?_⟩) hHeld ?_ ?_
                rotate_left
                · rintro w' ⟨s0, s1, s2, s3, s4, s5, s6, s7, s8, s9, s10, s11, s12, s13, s14⟩
                  go_simp
                  with_reducible rfl
                rotate_left
                · simp only [Act.put, List.setIfInBounds_toArray, List.set_cons_zero, List.set_cons_succ, i64_w, i32_w]
                  rfl
                refine take_ (i := 7) (N := some 39) (v := ?_) (a' := ?_) #[true, true, true, true, false, false, true, true, false, false, false, false, false] rfl rfl (take_ofW HT_.out HW_.out (by kernel_rfl)) (fun _ _ _ h => h) (Or.inl ⟨by rfl, ?_⟩) hHeld ?_ ?_
                rotate_left
                · rintro w' ⟨s0, s1, s2, s3, s4, s5, s6, s7, s8, s9, s10, s11, s12, s13, s14⟩
                  go_simp
                  with_reducible rfl
                rotate_left
                · simp only [Act.put, List.setIfInBounds_toArray, List.set_cons_zero, List.set_cons_succ, i64_w, i32_w]
                  rfl
                refine pure_ (i := 8) (N := some 40) (v := ?_) (a' := ?_) #[true, true, true, true, false, false, true, true, true, false, false, false, false] rfl rfl (any_of HT_.out (by kernel_rfl)) (fun _ _ _ h => h) (Or.inl ⟨by rfl, ?_⟩) ?_ ?_
                rotate_left
                · intro w'
                  go_simp
                  with_reducible rfl
                rotate_left
                · simp only [Act.put, List.setIfInBounds_toArray, List.set_cons_zero, List.set_cons_succ, i64_w, i32_w]
                  rfl
                refine take_ (i := 9) (N := some 41) (v := ?_) (a' := ?_) #[true, true, true, true, false, false, true, true, true, true, false, false, false] rfl rfl (take_ofW HT_.out HW_.out (by kernel_rfl)) (fun _ _ _ h => h) (Or.inl ⟨by rfl, ?_⟩) hHeld ?_ ?_
                rotate_left
                · rintro w' ⟨s0, s1, s2, s3, s4, s5, s6, s7, s8, s9, s10, s11, s12, s13, s14⟩
                  go_simp
                  with_reducible rfl
                rotate_left
                · simp only [Act.put, List.setIfInBounds_toArray, List.set_cons_zero, List.set_cons_succ, i64_w, i32_w]
                  rfl
                refine one_ (i := 4) (N := some 36) #[true, true, true, true, true, false, true, true, true, true, false, false, false] rfl rfl (one_of HT_.out (by kernel_rfl)) (by decide) (fun K hK => ?_)
                refine goes_ Tryd.func8 (by kernel_rfl) rfl #[.agg #[.string ((rd_T24 l0_4 0).f0), .string ((rd_T24 l0_4 0).f1), .int .i64 ((rd_T24 l0_4 0).f2), .int .i64 ((rd_T24 l0_4 0).f3), .slice A190_4 ((rd_T24 l0_4 0).f4).length c190_4], .int .i64 1] (by rfl) rfl rfl (by (try simp only [List.map_toArray, List.map_cons, List.map_nil]); first | done | rfl | (simp only [List.length_drop, List.length_take]; rfl)) ?_
                with_reducible refine (ih k (by omega) ((rd_T24 l0_4 0).f0) ((rd_T24 l0_4 0).f1) ((rd_T24 l0_4 0).f2) ((rd_T24 l0_4 0).f3) _ _ ((rd_T24 l0_4 0).f4) 1 t191 _ ?side1 ?side2 A25.out).mono ?_
                (case side1 => repeat (first | exact (Kd.C_below HR190_4.out HB.out) | (with_reducible refine Kd.C_alloc ?_ _) | (with_reducible refine Kd.C_drewN ?_ _) | (with_reducible refine Kd.C_drew ?_)))
                (case side2 => exact HC190_4.out)
                rintro e w36 ⟨rfl, hb⟩
                refine ⟨_, rfl, ?_⟩
                have n0_ := Aside0.mk (blk_below (g := gb185) (o := .cells #[.string a0_0, .string a0_1, .int .i64 a0_2, .int .i64 a0_3, .slice (some ad190) l0_4.length c0_4] 24 (0, 0)) (by (with_reducible repeat (first | refine blk_drewN ?_ _ | refine blk_drew ?_ | refine blk_alloc ?_ _)); exact BK185.out) hb)
                have n1_ := Aside0.mk (below_step (by repeat (first | (with_reducible first | exact HB.out | apply below_alloc | apply pw_below_drewN | apply below_drew1 | refine below_set ?_ GE185.out) | exact HB.out)) hb)
                clear BK185
                clear HB
                have BK185 := n0_
                have HB := n1_
                clear n0_ n1_
                (try clear hb)
                (try clear hb2)
                (try clear hk)
                (try clear hi)
                refine hK.out _ _ ⟨(blk_cell BK185.out 0).trans rfl, (blk_cell BK185.out 1).trans rfl, (blk_cell BK185.out 2).trans rfl, (blk_cell BK185.out 3).trans rfl, (blk_cell BK185.out 4).trans rfl, ((HB.out.cell (World.block_lt_of_cell? w _ hw190_0)).trans hw190_0), ((HB.out.cell (World.block_lt_of_cell? w _ hw190_1)).trans hw190_1), ((HB.out.cell (World.block_lt_of_cell? w _ hw190_2)).trans hw190_2), ((HB.out.cell (World.block_lt_of_cell? w _ hw190_3)).trans hw190_3), ((HB.out.cell (World.block_lt_of_cell? w _ hw190_4)).trans hw190_4), ((HB.out.cell (World.block_lt_of_cell? w _ hw192_0)).trans hw192_0), ((HB.out.cell (World.block_lt_of_cell? w _ hw192_1)).trans hw192_1), ((HB.out.cell (World.block_lt_of_cell? w _ hw192_2)).trans hw192_2), ((HB.out.cell (World.block_lt_of_cell? w _ hw192_3)).trans hw192_3), ((HB.out.cell (World.block_lt_of_cell? w _ hw192_4)).trans hw192_4)⟩ (fun hHeld => ?_)
                clear hK K
                refine norm_ (a' := ?_) ?_ ?_
                rotate_left
                · show Act.put _ (some 36) _ = _
                  simp only [Act.put, List.setIfInBounds_toArray, List.set_cons_zero, List.set_cons_succ, i64_w, i32_w]
                  rfl
                refine pure_ (i := 5) (N := some 37) (v := ?_) (a' := ?_) #[true, true, true, true, true, true, true, true, true, true, false, false, false] rfl rfl (any_of HT_.out (by kernel_rfl)) (fun _ _ _ h => h) (Or.inl ⟨by rfl, ?_⟩) ?_ ?_
                rotate_left
                · intro w'
                  go_simp
                  with_reducible rfl
                rotate_left
                · simp only [Act.put, List.setIfInBounds_toArray, List.set_cons_zero, List.set_cons_succ, i64_w, i32_w]
                  rfl
                refine one_ (i := 10) (N := some 42) #[true, true, true, true, true, true, true, true, true, true, true, false, false] rfl rfl (one_of HT_.out (by kernel_rfl)) (by decide) (fun K hK => ?_)
                refine goes_ Tryd.func8 (by kernel_rfl) rfl #[.agg #[.string ((rd_T24 l0_4 1).f0), .string ((rd_T24 l0_4 1).f1), .int .i64 ((rd_T24 l0_4 1).f2), .int .i64 ((rd_T24 l0_4 1).f3), .slice A192_4 ((rd_T24 l0_4 1).f4).length c192_4], .int .i64 2] (by rfl) rfl rfl (by (try simp only [List.map_toArray, List.map_cons, List.map_nil]); first | done | rfl | (simp only [List.length_drop, List.length_take]; rfl)) ?_
                with_reducible refine (ih k (by omega) ((rd_T24 l0_4 1).f0) ((rd_T24 l0_4 1).f1) ((rd_T24 l0_4 1).f2) ((rd_T24 l0_4 1).f3) _ _ ((rd_T24 l0_4 1).f4) 2 t193 _ ?side1 ?side2 A28.out).mono ?_
                (case side1 => repeat (first | exact (Kd.C_below HR192_4.out HB.out) | (with_reducible refine Kd.C_alloc ?_ _) | (with_reducible refine Kd.C_drewN ?_ _) | (with_reducible refine Kd.C_drew ?_)))
                (case side2 => exact HC192_4.out)
                rintro e w37 ⟨rfl, hb⟩
                refine ⟨_, rfl, ?_⟩
                have n0_ := Aside0.mk (blk_below (g := gb185) (o := .cells #[.string a0_0, .string a0_1, .int .i64 a0_2, .int .i64 a0_3, .slice (some ad190) l0_4.length c0_4] 24 (0, 0)) (by (with_reducible repeat (first | refine blk_drewN ?_ _ | refine blk_drew ?_ | refine blk_alloc ?_ _)); exact BK185.out) hb)
                have n1_ := Aside0.mk (below_step (by repeat (first | (with_reducible first | exact HB.out | apply below_alloc | apply pw_below_drewN | apply below_drew1 | refine below_set ?_ GE185.out) | exact HB.out)) hb)
                clear BK185
                clear HB
                have BK185 := n0_
                have HB := n1_
                clear n0_ n1_
                (try clear hb)
                (try clear hb2)
                (try clear hk)
                (try clear hi)
                refine hK.out _ _ ⟨(blk_cell BK185.out 0).trans rfl, (blk_cell BK185.out 1).trans rfl, (blk_cell BK185.out 2).trans rfl, (blk_cell BK185.out 3).trans rfl, (blk_cell BK185.out 4).trans rfl, ((HB.out.cell (World.block_lt_of_cell? w _ hw190_0)).trans hw190_0), ((HB.out.cell (World.block_lt_of_cell? w _ hw190_1)).trans hw190_1), ((HB.out.cell (World.block_lt_of_cell? w _ hw190_2)).trans hw190_2), ((HB.out.cell (World.block_lt_of_cell? w _ hw190_3)).trans hw190_3), ((HB.out.cell (World.block_lt_of_cell? w _ hw190_4)).trans hw190_4), ((HB.out.cell (World.block_lt_of_cell? w _ hw192_0)).trans hw192_0), ((HB.out.cell (World.block_lt_of_cell? w _ hw192_1)).trans hw192_1), ((HB.out.cell (World.block_lt_of_cell? w _ hw192_2)).trans hw192_2), ((HB.out.cell (World.block_lt_of_cell? w _ hw192_3)).trans hw192_3), ((HB.out.cell (World.block_lt_of_cell? w _ hw192_4)).trans hw192_4)⟩ (fun hHeld => ?_)
                clear hK K
                refine norm_ (a' := ?_) ?_ ?_
                rotate_left
                · show Act.put _ (some 42) _ = _
                  simp only [Act.put, List.setIfInBounds_toArray, List.set_cons_zero, List.set_cons_succ, i64_w, i32_w]
                  rfl
                refine pure_ (i := 11) (N := some 43) (v := ?_) (a' := ?_) #[true, true, true, true, true, true, true, true, true, true, true, true, false] rfl rfl (any_of HT_.out (by kernel_rfl)) (fun _ _ _ h => h) (Or.inl ⟨by rfl, ?_⟩) ?_ ?_
                rotate_left
                · intro w'
                  go_simp
                  with_reducible rfl
                rotate_left
                · simp only [Act.put, List.setIfInBounds_toArray, List.set_cons_zero, List.set_cons_succ, i64_w, i32_w]
                  rfl
                refine pure_ (i := 12) (N := some 5) (v := ?_) (a' := ?_) #[true, true, true, true, true, true, true, true, true, true, true, true, true] rfl rfl (any_of HT_.out (by kernel_rfl)) (fun _ _ _ h => h) (Or.inl ⟨by rfl, ?_⟩) ?_ ?_
                rotate_left
                · intro w'
                  go_simp
                  with_reducible rfl
                rotate_left
                · simp only [Act.put, List.setIfInBounds_toArray, List.set_cons_zero, List.set_cons_succ, i64_w, i32_w]
                  rfl
                refine done_ (done_of HT_.out (by kernel_rfl)) ?_
                try go_wp2
                go_ret
                exact ⟨by first | rfl | (simp [errW_none, errW_some] <;> rfl) | (simp [*, errW_none, errW_some] <;> rfl), by repeat (first | (with_reducible first | exact HB.out | apply below_alloc | apply pw_below_drewN | apply below_drew1 | refine below_set ?_ GE185.out) | exact HB.out)⟩
              · rw [if_neg c32] at H
                exact absurd H (by simp)
            · rw [if_neg c31] at H
              exact absurd H (by simp)
          · rw [if_neg c30] at H
            have c30b0 : decide (1 < a1) = false := decide_eq_false c30
            clear c30
            obtain rfl := Option.some.inj H
            go_enter Tryd.func8, Tryd.ntmps8
            try go_wp2_with (first | ((with_reducible refine gate_dst (N := 2) rfl ?_); refine box_event ?hg (N := 2) ?hd (cs := #[.string a0_0, .string a0_1, .int .i64 a0_2, .int .i64 a0_3, .slice A0_4 l0_4.length c0_4]) (t := 24) ?hr ?_; (case hd => rfl); (case hg => rfl); (case hr => first | (go_simp; done) | (go_simp; rfl)); intro gb185 hg w38 hbox hb; have n0_ := Aside0.mk (below_step (by repeat (first | (with_reducible first | exact HB.out | apply below_alloc | apply pw_below_drewN | apply below_drew1) | exact HB.out)) hb); have n1_ := Aside0.mk (hbox); have n2_ := Aside0.mk ((by rw [hg]; exact (below_size (by repeat (first | (with_reducible first | exact HB.out | apply below_alloc | apply pw_below_drewN | apply below_drew1) | exact HB.out))) : w.heap.size ≤ gb185)); have n3_ := Aside0.mk ((by rw [hg]; exact (below_size (by repeat (first | (with_reducible first | exact HB.out | apply below_alloc | apply pw_below_drewN | apply below_drew1) | exact HB.out))) : w.heap.size ≤ gb185)); clear HB; have HB := n0_; have BK185 := n1_; have GW185 := n2_; have GE185 := n3_; clear n0_ n1_ n2_ n3_; clear hb hbox hg; have hcz39_0 : w38.cell? ⟨gb185, 0, none⟩ = some (.string a0_0) := (blk_cell BK185.out 0).trans rfl; have hcz39_1 : w38.cell? ⟨gb185, 1, none⟩ = some (.string a0_1) := (blk_cell BK185.out 1).trans rfl; have hcz39_2 : w38.cell? ⟨gb185, 2, none⟩ = some (.int .i64 a0_2) := (blk_cell BK185.out 2).trans rfl; have hcz39_3 : w38.cell? ⟨gb185, 3, none⟩ = some (.int .i64 a0_3) := (blk_cell BK185.out 3).trans rfl; have hcz39_4 : w38.cell? ⟨gb185, 4, none⟩ = some (.slice A0_4 l0_4.length c0_4) := (blk_cell BK185.out 4).trans rfl; have hfz39_0 := blk_frozen BK185.out 0; have hfz39_1 := blk_frozen BK185.out 1; have hfz39_2 := blk_frozen BK185.out 2; have hfz39_3 := blk_frozen BK185.out 3; have hfz39_4 := blk_frozen BK185.out 4))
            have n0_ := Aside0.mk (blk_drew BK185.out)
            have n1_ := Aside0.mk (below_drew1 HB.out)
            clear BK185
            clear HB
            have BK185 := n0_
            have HB := n1_
            clear n0_ n1_
            have p190 : 0 ≤ (0 : Int) := (by omega)
            have q190 : 0 < (l0_4.length : Int) := of_decide_eq_true (by first | (with_reducible assumption) | assumption)
            obtain ⟨ad190, A190_4, c190_4, e190, hx190_0, hx190_1, hx190_2, hx190_3, hx190_4, hl190_4, hi190_4⟩ := at_T24 HR0_4.out 0 p190 q190
            have hw190_4 := hx190_4
            (try rw [show ((0 : Int)).toNat = 0 from rfl] at hw190_4)
            (try rw [show 0 * 5 = 0 from rfl] at hw190_4)
            (try rw [Addr.add_zero'] at hw190_4)
            have hw190_3 := hx190_3
            (try rw [show ((0 : Int)).toNat = 0 from rfl] at hw190_3)
            (try rw [show 0 * 5 = 0 from rfl] at hw190_3)
            (try rw [Addr.add_zero'] at hw190_3)
            have hw190_2 := hx190_2
            (try rw [show ((0 : Int)).toNat = 0 from rfl] at hw190_2)
            (try rw [show 0 * 5 = 0 from rfl] at hw190_2)
            (try rw [Addr.add_zero'] at hw190_2)
            have hw190_1 := hx190_1
            (try rw [show ((0 : Int)).toNat = 0 from rfl] at hw190_1)
            (try rw [show 0 * 5 = 0 from rfl] at hw190_1)
            (try rw [Addr.add_zero'] at hw190_1)
            have hw190_0 := hx190_0
            (try rw [show ((0 : Int)).toNat = 0 from rfl] at hw190_0)
            (try rw [show 0 * 5 = 0 from rfl] at hw190_0)
            (try rw [Addr.add_zero'] at hw190_0)
            cases e190
            have qi190 : (0 < l0_4.length) = True := eq_true (by omega)
            (try rw [show ((0 : Int)).toNat = 0 from rfl] at hx190_0)
            (try rw [show 0 * 5 = 0 from rfl] at hx190_0)
            (try rw [Addr.add_zero'] at hx190_0)
            (try rw [show ((0 : Int)).toNat = 0 from rfl] at hx190_1)
            (try rw [show 0 * 5 = 0 from rfl] at hx190_1)
            (try rw [Addr.add_zero'] at hx190_1)
            (try rw [show ((0 : Int)).toNat = 0 from rfl] at hx190_2)
            (try rw [show 0 * 5 = 0 from rfl] at hx190_2)
            (try rw [Addr.add_zero'] at hx190_2)
            (try rw [show ((0 : Int)).toNat = 0 from rfl] at hx190_3)
            (try rw [show 0 * 5 = 0 from rfl] at hx190_3)
            (try rw [Addr.add_zero'] at hx190_3)
            (try rw [show ((0 : Int)).toNat = 0 from rfl] at hx190_4)
            (try rw [show 0 * 5 = 0 from rfl] at hx190_4)
            (try rw [Addr.add_zero'] at hx190_4)
            replace hx190_0 := (HB.out.cell (World.block_lt_of_cell? w _ hx190_0)).trans hx190_0
            replace hx190_1 := (HB.out.cell (World.block_lt_of_cell? w _ hx190_1)).trans hx190_1
            replace hx190_2 := (HB.out.cell (World.block_lt_of_cell? w _ hx190_2)).trans hx190_2
            replace hx190_3 := (HB.out.cell (World.block_lt_of_cell? w _ hx190_3)).trans hx190_3
            replace hx190_4 := (HB.out.cell (World.block_lt_of_cell? w _ hx190_4)).trans hx190_4
            have HR190_4 := Aside0.mk hi190_4
            have HC190_4 := Aside0.mk hl190_4
            clear hi190_4 hl190_4
            replace p190 := eq_true p190
            replace q190 := eq_true q190
            have p192 : 0 ≤ (1 : Int) := (by omega)
            have q192 : 1 < (l0_4.length : Int) := of_decide_eq_true (by first | (with_reducible assumption) | assumption)
            obtain ⟨ad192, A192_4, c192_4, e192, hx192_0, hx192_1, hx192_2, hx192_3, hx192_4, hl192_4, hi192_4⟩ := at_T24 HR0_4.out 1 p192 q192
            have hw192_4 := hx192_4
            (try rw [show ((1 : Int)).toNat = 1 from rfl] at hw192_4)
            (try rw [show 1 * 5 = 5 from rfl] at hw192_4)
            (try simp only [Nat.reduceMul, Nat.reduceEqDiff, Go.Addr.add, ↓reduceIte] at hw192_4)
            have hw192_3 := hx192_3
            (try rw [show ((1 : Int)).toNat = 1 from rfl] at hw192_3)
            (try rw [show 1 * 5 = 5 from rfl] at hw192_3)
            (try simp only [Nat.reduceMul, Nat.reduceEqDiff, Go.Addr.add, ↓reduceIte] at hw192_3)
            have hw192_2 := hx192_2
            (try rw [show ((1 : Int)).toNat = 1 from rfl] at hw192_2)
            (try rw [show 1 * 5 = 5 from rfl] at hw192_2)
            (try simp only [Nat.reduceMul, Nat.reduceEqDiff, Go.Addr.add, ↓reduceIte] at hw192_2)
            have hw192_1 := hx192_1
            (try rw [show ((1 : Int)).toNat = 1 from rfl] at hw192_1)
            (try rw [show 1 * 5 = 5 from rfl] at hw192_1)
            (try simp only [Nat.reduceMul, Nat.reduceEqDiff, Go.Addr.add, ↓reduceIte] at hw192_1)
            have hw192_0 := hx192_0
            (try rw [show ((1 : Int)).toNat = 1 from rfl] at hw192_0)
            (try rw [show 1 * 5 = 5 from rfl] at hw192_0)
            (try simp only [Nat.reduceMul, Nat.reduceEqDiff, Go.Addr.add, ↓reduceIte] at hw192_0)
            obtain rfl : ad190 = ad192 := (by injection e192)
            (try simp only [show (1 : Int).toNat = 1 from rfl, Nat.reduceMul, Nat.reduceEqDiff, Go.Addr.add, ↓reduceIte] at hx192_0)
            (try simp only [show (1 : Int).toNat = 1 from rfl, Nat.reduceMul, Nat.reduceEqDiff, Go.Addr.add, ↓reduceIte] at hx192_1)
            (try simp only [show (1 : Int).toNat = 1 from rfl, Nat.reduceMul, Nat.reduceEqDiff, Go.Addr.add, ↓reduceIte] at hx192_2)
            (try simp only [show (1 : Int).toNat = 1 from rfl, Nat.reduceMul, Nat.reduceEqDiff, Go.Addr.add, ↓reduceIte] at hx192_3)
            (try simp only [show (1 : Int).toNat = 1 from rfl, Nat.reduceMul, Nat.reduceEqDiff, Go.Addr.add, ↓reduceIte] at hx192_4)
            have qi192 : (1 < l0_4.length) = True := eq_true (by omega)
            (try rw [show ((1 : Int)).toNat = 1 from rfl] at hx192_0)
            (try rw [show 1 * 5 = 5 from rfl] at hx192_0)
            (try rw [show ((1 : Int)).toNat = 1 from rfl] at hx192_1)
            (try rw [show 1 * 5 = 5 from rfl] at hx192_1)
            (try rw [show ((1 : Int)).toNat = 1 from rfl] at hx192_2)
            (try rw [show 1 * 5 = 5 from rfl] at hx192_2)
            (try rw [show ((1 : Int)).toNat = 1 from rfl] at hx192_3)
            (try rw [show 1 * 5 = 5 from rfl] at hx192_3)
            (try rw [show ((1 : Int)).toNat = 1 from rfl] at hx192_4)
            (try rw [show 1 * 5 = 5 from rfl] at hx192_4)
            replace hx192_0 := (HB.out.cell (World.block_lt_of_cell? w _ hx192_0)).trans hx192_0
            replace hx192_1 := (HB.out.cell (World.block_lt_of_cell? w _ hx192_1)).trans hx192_1
            replace hx192_2 := (HB.out.cell (World.block_lt_of_cell? w _ hx192_2)).trans hx192_2
            replace hx192_3 := (HB.out.cell (World.block_lt_of_cell? w _ hx192_3)).trans hx192_3
            replace hx192_4 := (HB.out.cell (World.block_lt_of_cell? w _ hx192_4)).trans hx192_4
            have HR192_4 := Aside0.mk hi192_4
            have HC192_4 := Aside0.mk hl192_4
            clear hi192_4 hl192_4
            replace p192 := eq_true p192
            replace q192 := eq_true q192
            refine start_ (n := 13) (S := fun w' => w'.cell? ⟨gb185, 0, none⟩ = some (.string a0_0) ∧ w'.cell? ⟨gb185, 1, none⟩ = some (.string a0_1) ∧ w'.cell? ⟨gb185, 2, none⟩ = some (.int .i64 a0_2) ∧ w'.cell? ⟨gb185, 3, none⟩ = some (.int .i64 a0_3) ∧ w'.cell? ⟨gb185, 4, none⟩ = some (.slice (some ad190) l0_4.length c0_4) ∧ w'.cell? ad190 = some (.string ((rd_T24 l0_4 0).f0)) ∧ w'.cell? ⟨ad190.block, ad190.off + 1, none⟩ = some (.string ((rd_T24 l0_4 0).f1)) ∧ w'.cell? ⟨ad190.block, ad190.off + 2, none⟩ = some (.int .i64 ((rd_T24 l0_4 0).f2)) ∧ w'.cell? ⟨ad190.block, ad190.off + 3, none⟩ = some (.int .i64 ((rd_T24 l0_4 0).f3)) ∧ w'.cell? ⟨ad190.block, ad190.off + 4, none⟩ = some (.slice A190_4 ((rd_T24 l0_4 0).f4).length c190_4) ∧ w'.cell? ⟨ad190.block, ad190.off + 5, none⟩ = some (.string ((rd_T24 l0_4 1).f0)) ∧ w'.cell? ⟨ad190.block, ad190.off + 5 + 1, none⟩ = some (.string ((rd_T24 l0_4 1).f1)) ∧ w'.cell? ⟨ad190.block, ad190.off + 5 + 2, none⟩ = some (.int .i64 ((rd_T24 l0_4 1).f2)) ∧ w'.cell? ⟨ad190.block, ad190.off + 5 + 3, none⟩ = some (.int .i64 ((rd_T24 l0_4 1).f3)) ∧ w'.cell? ⟨ad190.block, ad190.off + 5 + 4, none⟩ = some (.slice A192_4 ((rd_T24 l0_4 1).f4).length c192_4)) (ds := []) #[false, false, false, false, false, false, false, false, false, false, false, false, false] (by kernel_rfl) rfl rfl ⟨(blk_cell BK185.out 0).trans rfl, (blk_cell BK185.out 1).trans rfl, (blk_cell BK185.out 2).trans rfl, (blk_cell BK185.out 3).trans rfl, (blk_cell BK185.out 4).trans rfl, ((HB.out.cell (World.block_lt_of_cell? w _ hw190_0)).trans hw190_0), ((HB.out.cell (World.block_lt_of_cell? w _ hw190_1)).trans hw190_1), ((HB.out.cell (World.block_lt_of_cell? w _ hw190_2)).trans hw190_2), ((HB.out.cell (World.block_lt_of_cell? w _ hw190_3)).trans hw190_3), ((HB.out.cell (World.block_lt_of_cell? w _ hw190_4)).trans hw190_4), ((HB.out.cell (World.block_lt_of_cell? w _ hw192_0)).trans hw192_0), ((HB.out.cell (World.block_lt_of_cell? w _ hw192_1)).trans hw192_1), ((HB.out.cell (World.block_lt_of_cell? w _ hw192_2)).trans hw192_2), ((HB.out.cell (World.block_lt_of_cell? w _ hw192_3)).trans hw192_3), ((HB.out.cell (World.block_lt_of_cell? w _ hw192_4)).trans hw192_4)⟩ (fun hHeld => ?_); refine with_tabW patchbayref4_SiftString.tab9 patchbayref4_SiftString.bits9 (fun HT_ HW_ => ?_)
            generalize w38.drew = w40 at BK185 HB HR190_4 HR192_4 hx190_0 hx190_1 hx190_2 hx190_3 hx190_4 hx192_0 hx192_1 hx192_2 hx192_3 hx192_4 hHeld ⊢
            refine pure_ (i := 0) (N := some 32) (v := ?_) (a' := ?_) #[true, false, false, false, false, false, false, false, false, false, false, false, false] rfl rfl (any_of HT_.out (by kernel_rfl)) (fun _ _ _ h => h) (Or.inl ⟨by rfl, ?_⟩) ?_ ?_
            rotate_left
            · intro w'
              go_simp
              with_reducible rfl
            rotate_left
            · simp only [Act.put, List.setIfInBounds_toArray, List.set_cons_zero, List.set_cons_succ, i64_w, i32_w]
              rfl
            refine pure_ (i := 6) (N := some 38) (v := ?_) (a' := ?_) #[true, false, false, false, false, false, true, false, false, false, false, false, false] rfl rfl (any_of HT_.out (by kernel_rfl)) (fun _ _ _ h => h) (Or.inl ⟨by rfl, ?_⟩) ?_ ?_
            rotate_left
            · intro w'
              go_simp
              with_reducible rfl
            rotate_left
            · simp only [Act.put, List.setIfInBounds_toArray, List.set_cons_zero, List.set_cons_succ, i64_w, i32_w]
              rfl
            refine take_ (i := 1) (N := some 33) (v := ?_) (a' := ?_) #[true, true, false, false, false, false, true, false, false, false, false, false, false] rfl rfl (take_ofW HT_.out HW_.out (by kernel_rfl)) (fun _ _ _ h => h) (Or.inl ⟨by rfl, ?_⟩) hHeld ?_ ?_
            rotate_left
            · rintro w' ⟨s0, s1, s2, s3, s4, s5, s6, s7, s8, s9, s10, s11, s12, s13, s14⟩
              go_simp
              with_reducible rfl
            rotate_left
            · simp only [Act.put, List.setIfInBounds_toArray, List.set_cons_zero, List.set_cons_succ, i64_w, i32_w]
              rfl
            refine pure_ (i := 2) (N := some 34) (v := ?_) (a' := ?_) #[true, true, true, false, false, false, true, false, false, false, false, false, false] rfl rfl (any_of HT_.out (by kernel_rfl)) (fun _ _ _ h => h) (Or.inl ⟨by rfl, ?_⟩) ?_ ?_
            rotate_left
            · intro w'
              go_simp
              with_reducible rfl
            rotate_left
            · simp only [Act.put, List.setIfInBounds_toArray, List.set_cons_zero, List.set_cons_succ, i64_w, i32_w]
              rfl
            refine take_ (i := 3) (N := some 35) (v := ?_) (a' := ?_) #[true, true, true, true, false, false, true, false, false, false, false, false, false] rfl rfl (take_ofW HT_.out HW_.out (by kernel_rfl)) (fun _ _ _ h => h) (Or.inl ⟨by rfl, ?_⟩) hHeld ?_ ?_
            rotate_left
            · rintro w' ⟨s0, s1, s2, s3, s4, s5, s6, s7, s8, s9, s10, s11, s12, s13, s14⟩
              go_simp
              with_reducible rfl
            rotate_left
            · simp only [Act.put, List.setIfInBounds_toArray, List.set_cons_zero, List.set_cons_succ, i64_w, i32_w]
              rfl
            refine take_ (i := 7) (N := some 39) (v := ?_) (a' := ?_) #[true, true, true, true, false, false, true, true, false, false, false, false, false] rfl rfl (take_ofW HT_.out HW_.out (by kernel_rfl)) (fun _ _ _ h => h) (Or.inl ⟨by rfl, ?_⟩) hHeld ?_ ?_
            rotate_left
            · rintro w' ⟨s0, s1, s2, s3, s4, s5, s6, s7, s8, s9, s10, s11, s12, s13, s14⟩
              go_simp
              with_reducible rfl
            rotate_left
            · simp only [Act.put, List.setIfInBounds_toArray, List.set_cons_zero, List.set_cons_succ, i64_w, i32_w]
              rfl
            refine pure_ (i := 8) (N := some 40) (v := ?_) (a' := ?_) #[true, true, true, true, false, false, true, true, true, false, false, false, false] rfl rfl (any_of HT_.out (by kernel_rfl)) (fun _ _ _ h => h) (Or.inl ⟨by rfl, ?_⟩) ?_ ?_
            rotate_left
            · intro w'
              go_simp
              with_reducible rfl
            rotate_left
            · simp only [Act.put, List.setIfInBounds_toArray, List.set_cons_zero, List.set_cons_succ, i64_w, i32_w]
              rfl
            refine take_ (i := 9) (N := some 41) (v := ?_) (a' := ?_) #[true, true, true, true, false, false, true, true, true, true, false, false, false] rfl rfl (take_ofW HT_.out HW_.out (by kernel_rfl)) (fun _ _ _ h => h) (Or.inl ⟨by rfl, ?_⟩) hHeld ?_ ?_
            rotate_left
            · rintro w' ⟨s0, s1, s2, s3, s4, s5, s6, s7, s8, s9, s10, s11, s12, s13, s14⟩
              go_simp
              with_reducible rfl
            rotate_left
            · simp only [Act.put, List.setIfInBounds_toArray, List.set_cons_zero, List.set_cons_succ, i64_w, i32_w]
              rfl
            refine one_ (i := 4) (N := some 36) #[true, true, true, true, true, false, true, true, true, true, false, false, false] rfl rfl (one_of HT_.out (by kernel_rfl)) (by decide) (fun K hK => ?_)
            refine goes_ Tryd.func8 (by kernel_rfl) rfl #[.agg #[.string ((rd_T24 l0_4 0).f0), .string ((rd_T24 l0_4 0).f1), .int .i64 ((rd_T24 l0_4 0).f2), .int .i64 ((rd_T24 l0_4 0).f3), .slice A190_4 ((rd_T24 l0_4 0).f4).length c190_4], .int .i64 1] (by rfl) rfl rfl (by (try simp only [List.map_toArray, List.map_cons, List.map_nil]); first | done | rfl | (simp only [List.length_drop, List.length_take]; rfl)) ?_
            with_reducible refine (ih k (by omega) ((rd_T24 l0_4 0).f0) ((rd_T24 l0_4 0).f1) ((rd_T24 l0_4 0).f2) ((rd_T24 l0_4 0).f3) _ _ ((rd_T24 l0_4 0).f4) 1 t191 _ ?side1 ?side2 A25.out).mono ?_
            (case side1 => repeat (first | exact (Kd.C_below HR190_4.out HB.out) | (with_reducible refine Kd.C_alloc ?_ _) | (with_reducible refine Kd.C_drewN ?_ _) | (with_reducible refine Kd.C_drew ?_)))
            (case side2 => exact HC190_4.out)
            rintro e w41 ⟨rfl, hb⟩
            refine ⟨_, rfl, ?_⟩
            have n0_ := Aside0.mk (blk_below (g := gb185) (o := .cells #[.string a0_0, .string a0_1, .int .i64 a0_2, .int .i64 a0_3, .slice (some ad190) l0_4.length c0_4] 24 (0, 0)) (by (with_reducible repeat (first | refine blk_drewN ?_ _ | refine blk_drew ?_ | refine blk_alloc ?_ _)); exact BK185.out) hb)
            have n1_ := Aside0.mk (below_step (by repeat (first | (with_reducible first | exact HB.out | apply below_alloc | apply pw_below_drewN | apply below_drew1 | refine below_set ?_ GE185.out) | exact HB.out)) hb)
            clear BK185
            clear HB
            have BK185 := n0_
            have HB := n1_
            clear n0_ n1_
            (try clear hb)
            (try clear hb2)
            (try clear hk)
            (try clear hi)
            refine hK.out _ _ ⟨(blk_cell BK185.out 0).trans rfl, (blk_cell BK185.out 1).trans rfl, (blk_cell BK185.out 2).trans rfl, (blk_cell BK185.out 3).trans rfl, (blk_cell BK185.out 4).trans rfl, ((HB.out.cell (World.block_lt_of_cell? w _ hw190_0)).trans hw190_0), ((HB.out.cell (World.block_lt_of_cell? w _ hw190_1)).trans hw190_1), ((HB.out.cell (World.block_lt_of_cell? w _ hw190_2)).trans hw190_2), ((HB.out.cell (World.block_lt_of_cell? w _ hw190_3)).trans hw190_3), ((HB.out.cell (World.block_lt_of_cell? w _ hw190_4)).trans hw190_4), ((HB.out.cell (World.block_lt_of_cell? w _ hw192_0)).trans hw192_0), ((HB.out.cell (World.block_lt_of_cell? w _ hw192_1)).trans hw192_1), ((HB.out.cell (World.block_lt_of_cell? w _ hw192_2)).trans hw192_2), ((HB.out.cell (World.block_lt_of_cell? w _ hw192_3)).trans hw192_3), ((HB.out.cell (World.block_lt_of_cell? w _ hw192_4)).trans hw192_4)⟩ (fun hHeld => ?_)
            clear hK K
            refine norm_ (a' := ?_) ?_ ?_
            rotate_left
            · show Act.put _ (some 36) _ = _
              simp only [Act.put, List.setIfInBounds_toArray, List.set_cons_zero, List.set_cons_succ, i64_w, i32_w]
              rfl
            refine pure_ (i := 5) (N := some 37) (v := ?_) (a' := ?_) #[true, true, true, true, true, true, true, true, true, true, false, false, false] rfl rfl (any_of HT_.out (by kernel_rfl)) (fun _ _ _ h => h) (Or.inl ⟨by rfl, ?_⟩) ?_ ?_
            rotate_left
            · intro w'
              go_simp
              with_reducible rfl
            rotate_left
            · simp only [Act.put, List.setIfInBounds_toArray, List.set_cons_zero, List.set_cons_succ, i64_w, i32_w]
              rfl
            refine one_ (i := 10) (N := some 42) #[true, true, true, true, true, true, true, true, true, true, true, false, false] rfl rfl (one_of HT_.out (by kernel_rfl)) (by decide) (fun K hK => ?_)
            refine goes_ Tryd.func8 (by kernel_rfl) rfl #[.agg #[.string ((rd_T24 l0_4 1).f0), .string ((rd_T24 l0_4 1).f1), .int .i64 ((rd_T24 l0_4 1).f2), .int .i64 ((rd_T24 l0_4 1).f3), .slice A192_4 ((rd_T24 l0_4 1).f4).length c192_4], .int .i64 2] (by rfl) rfl rfl (by (try simp only [List.map_toArray, List.map_cons, List.map_nil]); first | done | rfl | (simp only [List.length_drop, List.length_take]; rfl)) ?_
            with_reducible refine (ih k (by omega) ((rd_T24 l0_4 1).f0) ((rd_T24 l0_4 1).f1) ((rd_T24 l0_4 1).f2) ((rd_T24 l0_4 1).f3) _ _ ((rd_T24 l0_4 1).f4) 2 t193 _ ?side1 ?side2 A28.out).mono ?_
            (case side1 => repeat (first | exact (Kd.C_below HR192_4.out HB.out) | (with_reducible refine Kd.C_alloc ?_ _) | (with_reducible refine Kd.C_drewN ?_ _) | (with_reducible refine Kd.C_drew ?_)))
            (case side2 => exact HC192_4.out)
            rintro e w42 ⟨rfl, hb⟩
            refine ⟨_, rfl, ?_⟩
            have n0_ := Aside0.mk (blk_below (g := gb185) (o := .cells #[.string a0_0, .string a0_1, .int .i64 a0_2, .int .i64 a0_3, .slice (some ad190) l0_4.length c0_4] 24 (0, 0)) (by (with_reducible repeat (first | refine blk_drewN ?_ _ | refine blk_drew ?_ | refine blk_alloc ?_ _)); exact BK185.out) hb)
            have n1_ := Aside0.mk (below_step (by repeat (first | (with_reducible first | exact HB.out | apply below_alloc | apply pw_below_drewN | apply below_drew1 | refine below_set ?_ GE185.out) | exact HB.out)) hb)
            clear BK185
            clear HB
            have BK185 := n0_
            have HB := n1_
            clear n0_ n1_
            (try clear hb)
            (try clear hb2)
            (try clear hk)
            (try clear hi)
            refine hK.out _ _ ⟨(blk_cell BK185.out 0).trans rfl, (blk_cell BK185.out 1).trans rfl, (blk_cell BK185.out 2).trans rfl, (blk_cell BK185.out 3).trans rfl, (blk_cell BK185.out 4).trans rfl, ((HB.out.cell (World.block_lt_of_cell? w _ hw190_0)).trans hw190_0), ((HB.out.cell (World.block_lt_of_cell? w _ hw190_1)).trans hw190_1), ((HB.out.cell (World.block_lt_of_cell? w _ hw190_2)).trans hw190_2), ((HB.out.cell (World.block_lt_of_cell? w _ hw190_3)).trans hw190_3), ((HB.out.cell (World.block_lt_of_cell? w _ hw190_4)).trans hw190_4), ((HB.out.cell (World.block_lt_of_cell? w _ hw192_0)).trans hw192_0), ((HB.out.cell (World.block_lt_of_cell? w _ hw192_1)).trans hw192_1), ((HB.out.cell (World.block_lt_of_cell? w _ hw192_2)).trans hw192_2), ((HB.out.cell (World.block_lt_of_cell? w _ hw192_3)).trans hw192_3), ((HB.out.cell (World.block_lt_of_cell? w _ hw192_4)).trans hw192_4)⟩ (fun hHeld => ?_)
            clear hK K
            refine norm_ (a' := ?_) ?_ ?_
            rotate_left
            · show Act.put _ (some 42) _ = _
              simp only [Act.put, List.setIfInBounds_toArray, List.set_cons_zero, List.set_cons_succ, i64_w, i32_w]
              rfl
            refine pure_ (i := 11) (N := some 43) (v := ?_) (a' := ?_) #[true, true, true, true, true, true, true, true, true, true, true, true, false] rfl rfl (any_of HT_.out (by kernel_rfl)) (fun _ _ _ h => h) (Or.inl ⟨by rfl, ?_⟩) ?_ ?_
            rotate_left
            · intro w'
              go_simp
              with_reducible rfl
            rotate_left
            · simp only [Act.put, List.setIfInBounds_toArray, List.set_cons_zero, List.set_cons_succ, i64_w, i32_w]
              rfl
            refine pure_ (i := 12) (N := some 5) (v := ?_) (a' := ?_) #[true, true, true, true, true, true, true, true, true, true, true, true, true] rfl rfl (any_of HT_.out (by kernel_rfl)) (fun _ _ _ h => h) (Or.inl ⟨by rfl, ?_⟩) ?_ ?_
            rotate_left
            · intro w'
              go_simp
              with_reducible rfl
            rotate_left
            · simp only [Act.put, List.setIfInBounds_toArray, List.set_cons_zero, List.set_cons_succ, i64_w, i32_w]
              rfl
            refine done_ (done_of HT_.out (by kernel_rfl)) ?_
            try go_wp2
            go_ret
            exact ⟨by first | rfl | (simp [errW_none, errW_some] <;> rfl) | (simp [*, errW_none, errW_some] <;> rfl), by repeat (first | (with_reducible first | exact HB.out | apply below_alloc | apply pw_below_drewN | apply below_drew1 | refine below_set ?_ GE185.out) | exact HB.out)⟩
        · rw [if_neg c29] at H
          exact absurd H (by simp)
      · rw [if_neg c27] at H
        exact absurd H (by simp)
    · rw [if_neg c26] at H
      exact absurd H (by simp)
  · rw [if_neg c24] at H
    exact absurd H (by simp)
set_option maxHeartbeats 8000000 in
set_option maxRecDepth 100000 in
theorem patchbayref4_SiftString.arm4 (k : Nat) (ih : ∀ (m_ : Nat), m_ < k + 1 → ∀ (a0_0 : ByteArray) (a0_1 : ByteArray) (a0_2 : Int) (a0_3 : Int) (A0_4 : Option Addr) (c0_4 : Nat) (l0_4 : List (S24)) (a1 : Int) (r : ByteArray) (w : World) (hr0_4 : Kd.C k24 w A0_4 l0_4.length l0_4) (hc0_4 : l0_4.length ≤ c0_4) (h : patchbayref4_SiftString.f m_ a0_0 a0_1 a0_2 a0_3 l0_4 a1 = some r), Calls Tryd.prog 8 #[.agg #[.string a0_0, .string a0_1, .int .i64 a0_2, .int .i64 a0_3, .slice A0_4 l0_4.length c0_4], .int .i64 a1] w fun e w' => e = .returned (.string r) ∧ Below w.heap.size w w') : ∀ (a0_0 : ByteArray) (a0_1 : ByteArray) (a0_2 : Int) (a0_3 : Int) (A0_4 : Option Addr) (c0_4 : Nat) (l0_4 : List (S24)) (a1 : Int) (r : ByteArray) (w : World) (hr0_4 : Kd.C k24 w A0_4 l0_4.length l0_4) (hc0_4 : l0_4.length ≤ c0_4) (h : patchbayref4_SiftString.f (k + 1) a0_0 a0_1 a0_2 a0_3 l0_4 a1 = some r) (c3 : ¬ (a0_0.toList = ([111, 114] : List UInt8))) (c23 : ¬ (a0_0.toList = ([97, 110, 100] : List UInt8))),
    Calls Tryd.prog 8 #[.agg #[.string a0_0, .string a0_1, .int .i64 a0_2, .int .i64 a0_3, .slice A0_4 l0_4.length c0_4], .int .i64 a1] w fun e w' => e = .returned (.string r) ∧ Below w.heap.size w w' := by
  intro a0_0 a0_1 a0_2 a0_3 A0_4 c0_4 l0_4 a1 r w hr0_4 hc0_4 h c3 c23
  simp only [patchbayref4_SiftString.f] at h
  have hu24 := Tryd.underlying24
  have HR0_4 := Aside0.mk hr0_4
  have HC0_4 := Aside0.mk hc0_4
  clear hr0_4 hc0_4
  have HB := Aside0.mk (Below.refl w.heap.size w)
  have H : (if a0_0.toList = ([111, 114] : List UInt8) then (if 0 < (l0_4.length : Int) then ((patchbayref4_SiftString.f k ((rd_T24 l0_4 0).f0) ((rd_T24 l0_4 0).f1) ((rd_T24 l0_4 0).f2) ((rd_T24 l0_4 0).f3) ((rd_T24 l0_4 0).f4) 0).bind fun t187 => (if t187.size + 4 ≤ 9223372036854775807 then (if 1 < (l0_4.length : Int) then ((patchbayref4_SiftString.f k ((rd_T24 l0_4 1).f0) ((rd_T24 l0_4 1).f1) ((rd_T24 l0_4 1).f2) ((rd_T24 l0_4 1).f3) ((rd_T24 l0_4 1).f4) 1).bind fun t189 => (if (t187 ++ (⟨#[32, 111, 114, 32]⟩ : ByteArray)).size + t189.size ≤ 9223372036854775807 then (if a1 > 0 then (if 1 + ((t187 ++ (⟨#[32, 111, 114, 32]⟩ : ByteArray)) ++ t189).size ≤ 9223372036854775807 then (if ((⟨#[40]⟩ : ByteArray) ++ ((t187 ++ (⟨#[32, 111, 114, 32]⟩ : ByteArray)) ++ t189)).size + 1 ≤ 9223372036854775807 then (some (((⟨#[40]⟩ : ByteArray) ++ ((t187 ++ (⟨#[32, 111, 114, 32]⟩ : ByteArray)) ++ t189)) ++ (⟨#[41]⟩ : ByteArray))) else (none)) else (none)) else (some ((t187 ++ (⟨#[32, 111, 114, 32]⟩ : ByteArray)) ++ t189))) else (none))) else (none)) else (none))) else (none)) else (if a0_0.toList = ([97, 110, 100] : List UInt8) then (if 0 < (l0_4.length : Int) then ((patchbayref4_SiftString.f k ((rd_T24 l0_4 0).f0) ((rd_T24 l0_4 0).f1) ((rd_T24 l0_4 0).f2) ((rd_T24 l0_4 0).f3) ((rd_T24 l0_4 0).f4) 1).bind fun t191 => (if t191.size + 5 ≤ 9223372036854775807 then (if 1 < (l0_4.length : Int) then ((patchbayref4_SiftString.f k ((rd_T24 l0_4 1).f0) ((rd_T24 l0_4 1).f1) ((rd_T24 l0_4 1).f2) ((rd_T24 l0_4 1).f3) ((rd_T24 l0_4 1).f4) 2).bind fun t193 => (if (t191 ++ (⟨#[32, 97, 110, 100, 32]⟩ : ByteArray)).size + t193.size ≤ 9223372036854775807 then (if a1 > 1 then (if 1 + ((t191 ++ (⟨#[32, 97, 110, 100, 32]⟩ : ByteArray)) ++ t193).size ≤ 9223372036854775807 then (if ((⟨#[40]⟩ : ByteArray) ++ ((t191 ++ (⟨#[32, 97, 110, 100, 32]⟩ : ByteArray)) ++ t193)).size + 1 ≤ 9223372036854775807 then (some (((⟨#[40]⟩ : ByteArray) ++ ((t191 ++ (⟨#[32, 97, 110, 100, 32]⟩ : ByteArray)) ++ t193)) ++ (⟨#[41]⟩ : ByteArray))) else (none)) else (none)) else (some ((t191 ++ (⟨#[32, 97, 110, 100, 32]⟩ : ByteArray)) ++ t193))) else (none))) else (none)) else (none))) else (none)) else (if a0_0.toList = ([110, 111, 116] : List UInt8) then (if 0 < (l0_4.length : Int) then ((patchbayref4_SiftString.f k ((rd_T24 l0_4 0).f0) ((rd_T24 l0_4 0).f1) ((rd_T24 l0_4 0).f2) ((rd_T24 l0_4 0).f3) ((rd_T24 l0_4 0).f4) 2).bind fun t195 => (if 4 + t195.size ≤ 9223372036854775807 then (some ((⟨#[110, 111, 116, 32]⟩ : ByteArray) ++ t195)) else (none))) else (none)) else (if a0_0.toList = ([105, 110] : List UInt8) then ((patchbayref4_Digits.f k (wrap64 (Int.tdiv a0_2 16777216))).bind fun t196 => (if t196.size + 1 ≤ 9223372036854775807 then ((patchbayref4_Digits.f k (Int.tmod (wrap64 (Int.tdiv a0_2 65536)) 256)).bind fun t197 => (if (t196 ++ (⟨#[46]⟩ : ByteArray)).size + t197.size ≤ 9223372036854775807 then (if ((t196 ++ (⟨#[46]⟩ : ByteArray)) ++ t197).size + 1 ≤ 9223372036854775807 then ((patchbayref4_Digits.f k (Int.tmod (wrap64 (Int.tdiv a0_2 256)) 256)).bind fun t198 => (if (((t196 ++ (⟨#[46]⟩ : ByteArray)) ++ t197) ++ (⟨#[46]⟩ : ByteArray)).size + t198.size ≤ 9223372036854775807 then (if ((((t196 ++ (⟨#[46]⟩ : ByteArray)) ++ t197) ++ (⟨#[46]⟩ : ByteArray)) ++ t198).size + 1 ≤ 9223372036854775807 then ((patchbayref4_Digits.f k (Int.tmod a0_2 256)).bind fun t199 => (if (((((t196 ++ (⟨#[46]⟩ : ByteArray)) ++ t197) ++ (⟨#[46]⟩ : ByteArray)) ++ t198) ++ (⟨#[46]⟩ : ByteArray)).size + t199.size ≤ 9223372036854775807 then (if a0_1.size + 4 ≤ 9223372036854775807 then (if (a0_1 ++ (⟨#[32, 105, 110, 32]⟩ : ByteArray)).size + ((((((t196 ++ (⟨#[46]⟩ : ByteArray)) ++ t197) ++ (⟨#[46]⟩ : ByteArray)) ++ t198) ++ (⟨#[46]⟩ : ByteArray)) ++ t199).size ≤ 9223372036854775807 then (if ((a0_1 ++ (⟨#[32, 105, 110, 32]⟩ : ByteArray)) ++ ((((((t196 ++ (⟨#[46]⟩ : ByteArray)) ++ t197) ++ (⟨#[46]⟩ : ByteArray)) ++ t198) ++ (⟨#[46]⟩ : ByteArray)) ++ t199)).size + 1 ≤ 9223372036854775807 then ((patchbayref4_Digits.f k a0_3).bind fun t200 => (if (((a0_1 ++ (⟨#[32, 105, 110, 32]⟩ : ByteArray)) ++ ((((((t196 ++ (⟨#[46]⟩ : ByteArray)) ++ t197) ++ (⟨#[46]⟩ : ByteArray)) ++ t198) ++ (⟨#[46]⟩ : ByteArray)) ++ t199)) ++ (⟨#[47]⟩ : ByteArray)).size + t200.size ≤ 9223372036854775807 then (some ((((a0_1 ++ (⟨#[32, 105, 110, 32]⟩ : ByteArray)) ++ ((((((t196 ++ (⟨#[46]⟩ : ByteArray)) ++ t197) ++ (⟨#[46]⟩ : ByteArray)) ++ t198) ++ (⟨#[46]⟩ : ByteArray)) ++ t199)) ++ (⟨#[47]⟩ : ByteArray)) ++ t200)) else (none))) else (none)) else (none)) else (none)) else (none))) else (none)) else (none))) else (none)) else (none))) else (none))) else (if a0_1.size + 1 ≤ 9223372036854775807 then (if (a0_1 ++ (⟨#[32]⟩ : ByteArray)).size + a0_0.size ≤ 9223372036854775807 then (if ((a0_1 ++ (⟨#[32]⟩ : ByteArray)) ++ a0_0).size + 1 ≤ 9223372036854775807 then ((patchbayref4_Digits.f k a0_2).bind fun t201 => (if (((a0_1 ++ (⟨#[32]⟩ : ByteArray)) ++ a0_0) ++ (⟨#[32]⟩ : ByteArray)).size + t201.size ≤ 9223372036854775807 then (some ((((a0_1 ++ (⟨#[32]⟩ : ByteArray)) ++ a0_0) ++ (⟨#[32]⟩ : ByteArray)) ++ t201)) else (none))) else (none)) else (none)) else (none)))))) = some r := h
  clear h
  rw [if_neg c3] at H
  have c3b0 : (a0_0.toList == ([111, 114] : List UInt8)) = false := beq_eq_false_iff_ne.mpr c3
  have c3b1 : (a0_0.toList != ([111, 114] : List UInt8)) = true := bne_iff_ne.mpr c3
  rw [if_neg c23] at H
  have c23b0 : (a0_0.toList == ([97, 110, 100] : List UInt8)) = false := beq_eq_false_iff_ne.mpr c23
  have c23b1 : (a0_0.toList != ([97, 110, 100] : List UInt8)) = true := bne_iff_ne.mpr c23
  by_cases c43 : a0_0.toList = ([110, 111, 116] : List UInt8)
  · rw [if_pos c43] at H
    have c43b0 : (a0_0.toList == ([110, 111, 116] : List UInt8)) = true := beq_iff_eq.mpr c43
    have c43b1 : (a0_0.toList != ([110, 111, 116] : List UInt8)) = false := bne_eq_false_iff_eq.mpr c43
    clear c43
    by_cases c44 : 0 < (l0_4.length : Int)
    · rw [if_pos c44] at H
      have c44b0 : decide (0 < (l0_4.length : Int)) = true := decide_eq_true c44
      have c44b1 : decide (0 < l0_4.length) = true := decide_eq_true (by omega)
      clear c44
      replace H := Option.bind_eq_some_iff.mp H
      obtain ⟨t195, A450, H⟩ := H
      replace H : (if 4 + t195.size ≤ 9223372036854775807 then (some ((⟨#[110, 111, 116, 32]⟩ : ByteArray) ++ t195)) else (none)) = some r := H
      have A45 := Aside0.mk A450
      clear A450
      by_cases c46 : 4 + t195.size ≤ 9223372036854775807
      · rw [if_pos c46] at H
        have c46b0 := eq_true c46
        have c46b1 : decide (4 + t195.size ≤ 9223372036854775807) = true := decide_eq_true c46
        try have c46b2 : (9223372036854775807 < 4 + t195.size) = False := eq_false (Nat.not_lt.2 c46)
        obtain rfl := Option.some.inj H
        go_enter Tryd.func8, Tryd.ntmps8
        go_wp2_with (first | ((with_reducible refine gate_dst (N := 2) rfl ?_); refine box_event ?hg (N := 2) ?hd (cs := #[.string a0_0, .string a0_1, .int .i64 a0_2, .int .i64 a0_3, .slice A0_4 l0_4.length c0_4]) (t := 24) ?hr ?_; (case hd => rfl); (case hg => rfl); (case hr => first | (go_simp; done) | (go_simp; rfl)); intro gb185 hg w47 hbox hb; have n0_ := Aside0.mk (below_step (by repeat (first | (with_reducible first | exact HB.out | apply below_alloc | apply pw_below_drewN | apply below_drew1) | exact HB.out)) hb); have n1_ := Aside0.mk (hbox); have n2_ := Aside0.mk ((by rw [hg]; exact (below_size (by repeat (first | (with_reducible first | exact HB.out | apply below_alloc | apply pw_below_drewN | apply below_drew1) | exact HB.out))) : w.heap.size ≤ gb185)); have n3_ := Aside0.mk ((by rw [hg]; exact (below_size (by repeat (first | (with_reducible first | exact HB.out | apply below_alloc | apply pw_below_drewN | apply below_drew1) | exact HB.out))) : w.heap.size ≤ gb185)); clear HB; have HB := n0_; have BK185 := n1_; have GW185 := n2_; have GE185 := n3_; clear n0_ n1_ n2_ n3_; clear hb hbox hg; have hcz48_0 : w47.cell? ⟨gb185, 0, none⟩ = some (.string a0_0) := (blk_cell BK185.out 0).trans rfl; have hcz48_1 : w47.cell? ⟨gb185, 1, none⟩ = some (.string a0_1) := (blk_cell BK185.out 1).trans rfl; have hcz48_2 : w47.cell? ⟨gb185, 2, none⟩ = some (.int .i64 a0_2) := (blk_cell BK185.out 2).trans rfl; have hcz48_3 : w47.cell? ⟨gb185, 3, none⟩ = some (.int .i64 a0_3) := (blk_cell BK185.out 3).trans rfl; have hcz48_4 : w47.cell? ⟨gb185, 4, none⟩ = some (.slice A0_4 l0_4.length c0_4) := (blk_cell BK185.out 4).trans rfl; have hfz48_0 := blk_frozen BK185.out 0; have hfz48_1 := blk_frozen BK185.out 1; have hfz48_2 := blk_frozen BK185.out 2; have hfz48_3 := blk_frozen BK185.out 3; have hfz48_4 := blk_frozen BK185.out 4; have p194 : 0 ≤ (0 : Int) := (by omega); have q194 : 0 < (l0_4.length : Int) := of_decide_eq_true (by first | (with_reducible assumption) | assumption); obtain ⟨ad194, A194_4, c194_4, e194, hx194_0, hx194_1, hx194_2, hx194_3, hx194_4, hl194_4, hi194_4⟩ := at_T24 HR0_4.out 0 p194 q194; cases e194; have qi194 : (0 < l0_4.length) = True := eq_true (by omega); (try rw [show ((0 : Int)).toNat = 0 from rfl] at hx194_0); (try rw [show 0 * 5 = 0 from rfl] at hx194_0); (try rw [Addr.add_zero'] at hx194_0); (try rw [show ((0 : Int)).toNat = 0 from rfl] at hx194_1); (try rw [show 0 * 5 = 0 from rfl] at hx194_1); (try rw [Addr.add_zero'] at hx194_1); (try rw [show ((0 : Int)).toNat = 0 from rfl] at hx194_2); (try rw [show 0 * 5 = 0 from rfl] at hx194_2); (try rw [Addr.add_zero'] at hx194_2); (try rw [show ((0 : Int)).toNat = 0 from rfl] at hx194_3); (try rw [show 0 * 5 = 0 from rfl] at hx194_3); (try rw [Addr.add_zero'] at hx194_3); (try rw [show ((0 : Int)).toNat = 0 from rfl] at hx194_4); (try rw [show 0 * 5 = 0 from rfl] at hx194_4); (try rw [Addr.add_zero'] at hx194_4); replace hx194_0 := (HB.out.cell (World.block_lt_of_cell? w _ hx194_0)).trans hx194_0; replace hx194_1 := (HB.out.cell (World.block_lt_of_cell? w _ hx194_1)).trans hx194_1; replace hx194_2 := (HB.out.cell (World.block_lt_of_cell? w _ hx194_2)).trans hx194_2; replace hx194_3 := (HB.out.cell (World.block_lt_of_cell? w _ hx194_3)).trans hx194_3; replace hx194_4 := (HB.out.cell (World.block_lt_of_cell? w _ hx194_4)).trans hx194_4; have HR194_4 := Aside0.mk hi194_4; have HC194_4 := Aside0.mk hl194_4; clear hi194_4 hl194_4; replace p194 := eq_true p194; replace q194 := eq_true q194) | ((with_reducible refine gate_callee (f := 8) rfl ?_); refine goesL_ (some 56) rfl rfl Tryd.func8 (by kernel_rfl) rfl #[.agg #[.string ((rd_T24 l0_4 0).f0), .string ((rd_T24 l0_4 0).f1), .int .i64 ((rd_T24 l0_4 0).f2), .int .i64 ((rd_T24 l0_4 0).f3), .slice A194_4 ((rd_T24 l0_4 0).f4).length c194_4], .int .i64 2] rfl (by (try simp only [List.map_toArray, List.map_cons, List.map_nil]); first | done | rfl | (simp only [List.length_drop, List.length_take]; rfl)) ?_; (with_reducible refine (ih k (by omega) ((rd_T24 l0_4 0).f0) ((rd_T24 l0_4 0).f1) ((rd_T24 l0_4 0).f2) ((rd_T24 l0_4 0).f3) _ _ ((rd_T24 l0_4 0).f4) 2 t195 _ ?side1 ?side2 A45.out).mono ?_); (case side1 => repeat (first | exact (Kd.C_below HR194_4.out HB.out) | (with_reducible refine Kd.C_alloc ?_ _) | (with_reducible refine Kd.C_drewN ?_ _) | (with_reducible refine Kd.C_drew ?_))); (case side2 => exact HC194_4.out); rintro e w49 ⟨rfl, hb⟩; refine ⟨_, rfl, ?_⟩; have n0_ := Aside0.mk (blk_below (g := gb185) (o := .cells #[.string a0_0, .string a0_1, .int .i64 a0_2, .int .i64 a0_3, .slice (some ad194) l0_4.length c0_4] 24 (0, 0)) (by (with_reducible repeat (first | refine blk_drewN ?_ _ | refine blk_drew ?_ | refine blk_alloc ?_ _)); exact BK185.out) hb); have n1_ := Aside0.mk (below_step (by repeat (first | (with_reducible first | exact HB.out | apply below_alloc | apply pw_below_drewN | apply below_drew1 | refine below_set ?_ GE185.out) | exact HB.out)) hb); clear BK185; clear HB; have BK185 := n0_; have HB := n1_; clear n0_ n1_; (try clear hb); (try clear hb2); (try clear hk); (try clear hi)))
        go_ret
        exact ⟨by first | rfl | (simp [errW_none, errW_some] <;> rfl) | (simp [*, errW_none, errW_some] <;> rfl), by repeat (first | (with_reducible first | exact HB.out | apply below_alloc | apply pw_below_drewN | apply below_drew1 | refine below_set ?_ GE185.out) | exact HB.out)⟩
      · rw [if_neg c46] at H
        exact absurd H (by simp)
    · rw [if_neg c44] at H
      exact absurd H (by simp)
  · rw [if_neg c43] at H
    have c43b0 : (a0_0.toList == ([110, 111, 116] : List UInt8)) = false := beq_eq_false_iff_ne.mpr c43
    have c43b1 : (a0_0.toList != ([110, 111, 116] : List UInt8)) = true := bne_iff_ne.mpr c43
    by_cases c50 : a0_0.toList = ([105, 110] : List UInt8)
    · rw [if_pos c50] at H
      have c50b0 : (a0_0.toList == ([105, 110] : List UInt8)) = true := beq_iff_eq.mpr c50
      have c50b1 : (a0_0.toList != ([105, 110] : List UInt8)) = false := bne_eq_false_iff_eq.mpr c50
      clear c50
      replace H := Option.bind_eq_some_iff.mp H
      obtain ⟨t196, A510, H⟩ := H
      replace H : (if t196.size + 1 ≤ 9223372036854775807 then ((patchbayref4_Digits.f k (Int.tmod (wrap64 (Int.tdiv a0_2 65536)) 256)).bind fun t197 => (if (t196 ++ (⟨#[46]⟩ : ByteArray)).size + t197.size ≤ 9223372036854775807 then (if ((t196 ++ (⟨#[46]⟩ : ByteArray)) ++ t197).size + 1 ≤ 9223372036854775807 then ((patchbayref4_Digits.f k (Int.tmod (wrap64 (Int.tdiv a0_2 256)) 256)).bind fun t198 => (if (((t196 ++ (⟨#[46]⟩ : ByteArray)) ++ t197) ++ (⟨#[46]⟩ : ByteArray)).size + t198.size ≤ 9223372036854775807 then (if ((((t196 ++ (⟨#[46]⟩ : ByteArray)) ++ t197) ++ (⟨#[46]⟩ : ByteArray)) ++ t198).size + 1 ≤ 9223372036854775807 then ((patchbayref4_Digits.f k (Int.tmod a0_2 256)).bind fun t199 => (if (((((t196 ++ (⟨#[46]⟩ : ByteArray)) ++ t197) ++ (⟨#[46]⟩ : ByteArray)) ++ t198) ++ (⟨#[46]⟩ : ByteArray)).size + t199.size ≤ 9223372036854775807 then (if a0_1.size + 4 ≤ 9223372036854775807 then (if (a0_1 ++ (⟨#[32, 105, 110, 32]⟩ : ByteArray)).size + ((((((t196 ++ (⟨#[46]⟩ : ByteArray)) ++ t197) ++ (⟨#[46]⟩ : ByteArray)) ++ t198) ++ (⟨#[46]⟩ : ByteArray)) ++ t199).size ≤ 9223372036854775807 then (if ((a0_1 ++ (⟨#[32, 105, 110, 32]⟩ : ByteArray)) ++ ((((((t196 ++ (⟨#[46]⟩ : ByteArray)) ++ t197) ++ (⟨#[46]⟩ : ByteArray)) ++ t198) ++ (⟨#[46]⟩ : ByteArray)) ++ t199)).size + 1 ≤ 9223372036854775807 then ((patchbayref4_Digits.f k a0_3).bind fun t200 => (if (((a0_1 ++ (⟨#[32, 105, 110, 32]⟩ : ByteArray)) ++ ((((((t196 ++ (⟨#[46]⟩ : ByteArray)) ++ t197) ++ (⟨#[46]⟩ : ByteArray)) ++ t198) ++ (⟨#[46]⟩ : ByteArray)) ++ t199)) ++ (⟨#[47]⟩ : ByteArray)).size + t200.size ≤ 9223372036854775807 then (some ((((a0_1 ++ (⟨#[32, 105, 110, 32]⟩ : ByteArray)) ++ ((((((t196 ++ (⟨#[46]⟩ : ByteArray)) ++ t197) ++ (⟨#[46]⟩ : ByteArray)) ++ t198) ++ (⟨#[46]⟩ : ByteArray)) ++ t199)) ++ (⟨#[47]⟩ : ByteArray)) ++ t200)) else (none))) else (none)) else (none)) else (none)) else (none))) else (none)) else (none))) else (none)) else (none))) else (none)) = some r := H
      have A51 := Aside0.mk A510
      clear A510
      by_cases c52 : t196.size + 1 ≤ 9223372036854775807
      · rw [if_pos c52] at H
        have c52b0 := eq_true c52
        have c52b1 : decide (t196.size + 1 ≤ 9223372036854775807) = true := decide_eq_true c52
        try have c52b2 : (9223372036854775807 < t196.size + 1) = False := eq_false (Nat.not_lt.2 c52)
        replace H := Option.bind_eq_some_iff.mp H
        obtain ⟨t197, A530, H⟩ := H
        replace H : (if (t196 ++ (⟨#[46]⟩ : ByteArray)).size + t197.size ≤ 9223372036854775807 then (if ((t196 ++ (⟨#[46]⟩ : ByteArray)) ++ t197).size + 1 ≤ 9223372036854775807 then ((patchbayref4_Digits.f k (Int.tmod (wrap64 (Int.tdiv a0_2 256)) 256)).bind fun t198 => (if (((t196 ++ (⟨#[46]⟩ : ByteArray)) ++ t197) ++ (⟨#[46]⟩ : ByteArray)).size + t198.size ≤ 9223372036854775807 then (if ((((t196 ++ (⟨#[46]⟩ : ByteArray)) ++ t197) ++ (⟨#[46]⟩ : ByteArray)) ++ t198).size + 1 ≤ 9223372036854775807 then ((patchbayref4_Digits.f k (Int.tmod a0_2 256)).bind fun t199 => (if (((((t196 ++ (⟨#[46]⟩ : ByteArray)) ++ t197) ++ (⟨#[46]⟩ : ByteArray)) ++ t198) ++ (⟨#[46]⟩ : ByteArray)).size + t199.size ≤ 9223372036854775807 then (if a0_1.size + 4 ≤ 9223372036854775807 then (if (a0_1 ++ (⟨#[32, 105, 110, 32]⟩ : ByteArray)).size + ((((((t196 ++ (⟨#[46]⟩ : ByteArray)) ++ t197) ++ (⟨#[46]⟩ : ByteArray)) ++ t198) ++ (⟨#[46]⟩ : ByteArray)) ++ t199).size ≤ 9223372036854775807 then (if ((a0_1 ++ (⟨#[32, 105, 110, 32]⟩ : ByteArray)) ++ ((((((t196 ++ (⟨#[46]⟩ : ByteArray)) ++ t197) ++ (⟨#[46]⟩ : ByteArray)) ++ t198) ++ (⟨#[46]⟩ : ByteArray)) ++ t199)).size + 1 ≤ 9223372036854775807 then ((patchbayref4_Digits.f k a0_3).bind fun t200 => (if (((a0_1 ++ (⟨#[32, 105, 110, 32]⟩ : ByteArray)) ++ ((((((t196 ++ (⟨#[46]⟩ : ByteArray)) ++ t197) ++ (⟨#[46]⟩ : ByteArray)) ++ t198) ++ (⟨#[46]⟩ : ByteArray)) ++ t199)) ++ (⟨#[47]⟩ : ByteArray)).size + t200.size ≤ 9223372036854775807 then (some ((((a0_1 ++ (⟨#[32, 105, 110, 32]⟩ : ByteArray)) ++ ((((((t196 ++ (⟨#[46]⟩ : ByteArray)) ++ t197) ++ (⟨#[46]⟩ : ByteArray)) ++ t198) ++ (⟨#[46]⟩ : ByteArray)) ++ t199)) ++ (⟨#[47]⟩ : ByteArray)) ++ t200)) else (none))) else (none)) else (none)) else (none)) else (none))) else (none)) else (none))) else (none)) else (none)) = some r := H
        have A53 := Aside0.mk A530
        clear A530
        by_cases c54 : (t196 ++ (⟨#[46]⟩ : ByteArray)).size + t197.size ≤ 9223372036854775807
        · rw [if_pos c54] at H
          have c54b0 := eq_true c54
          have c54b1 : decide ((t196 ++ (⟨#[46]⟩ : ByteArray)).size + t197.size ≤ 9223372036854775807) = true := decide_eq_true c54
          try have c54b2 : (9223372036854775807 < (t196 ++ (⟨#[46]⟩ : ByteArray)).size + t197.size) = False := eq_false (Nat.not_lt.2 c54)
          try (have c54b4 := c54b2; simp only [ByteArray.size_append, show (⟨#[46]⟩ : ByteArray).size = 1 from rfl] at c54b4)
          try (have c54b5 := c54b2; simp only [ByteArray.size_append, show (⟨#[46]⟩ : ByteArray).size = 1 from rfl, Nat.add_assoc, Nat.reduceAdd] at c54b5)
          try (have c54b3 := c54b2; simp only [ByteArray.size_append] at c54b3)
          by_cases c55 : ((t196 ++ (⟨#[46]⟩ : ByteArray)) ++ t197).size + 1 ≤ 9223372036854775807
          · rw [if_pos c55] at H
            have c55b0 := eq_true c55
            have c55b1 : decide (((t196 ++ (⟨#[46]⟩ : ByteArray)) ++ t197).size + 1 ≤ 9223372036854775807) = true := decide_eq_true c55
            try have c55b2 : (9223372036854775807 < ((t196 ++ (⟨#[46]⟩ : ByteArray)) ++ t197).size + 1) = False := eq_false (Nat.not_lt.2 c55)
            try (have c55b4 := c55b2; simp only [ByteArray.size_append, show (⟨#[46]⟩ : ByteArray).size = 1 from rfl] at c55b4)
            try (have c55b5 := c55b2; simp only [ByteArray.size_append, show (⟨#[46]⟩ : ByteArray).size = 1 from rfl, Nat.add_assoc, Nat.reduceAdd] at c55b5)
            try (have c55b3 := c55b2; simp only [ByteArray.size_append] at c55b3)
            replace H := Option.bind_eq_some_iff.mp H
            obtain ⟨t198, A560, H⟩ := H
            replace H : (if (((t196 ++ (⟨#[46]⟩ : ByteArray)) ++ t197) ++ (⟨#[46]⟩ : ByteArray)).size + t198.size ≤ 9223372036854775807 then (if ((((t196 ++ (⟨#[46]⟩ : ByteArray)) ++ t197) ++ (⟨#[46]⟩ : ByteArray)) ++ t198).size + 1 ≤ 9223372036854775807 then ((patchbayref4_Digits.f k (Int.tmod a0_2 256)).bind fun t199 => (if (((((t196 ++ (⟨#[46]⟩ : ByteArray)) ++ t197) ++ (⟨#[46]⟩ : ByteArray)) ++ t198) ++ (⟨#[46]⟩ : ByteArray)).size + t199.size ≤ 9223372036854775807 then (if a0_1.size + 4 ≤ 9223372036854775807 then (if (a0_1 ++ (⟨#[32, 105, 110, 32]⟩ : ByteArray)).size + ((((((t196 ++ (⟨#[46]⟩ : ByteArray)) ++ t197) ++ (⟨#[46]⟩ : ByteArray)) ++ t198) ++ (⟨#[46]⟩ : ByteArray)) ++ t199).size ≤ 9223372036854775807 then (if ((a0_1 ++ (⟨#[32, 105, 110, 32]⟩ : ByteArray)) ++ ((((((t196 ++ (⟨#[46]⟩ : ByteArray)) ++ t197) ++ (⟨#[46]⟩ : ByteArray)) ++ t198) ++ (⟨#[46]⟩ : ByteArray)) ++ t199)).size + 1 ≤ 9223372036854775807 then ((patchbayref4_Digits.f k a0_3).bind fun t200 => (if (((a0_1 ++ (⟨#[32, 105, 110, 32]⟩ : ByteArray)) ++ ((((((t196 ++ (⟨#[46]⟩ : ByteArray)) ++ t197) ++ (⟨#[46]⟩ : ByteArray)) ++ t198) ++ (⟨#[46]⟩ : ByteArray)) ++ t199)) ++ (⟨#[47]⟩ : ByteArray)).size + t200.size ≤ 9223372036854775807 then (some ((((a0_1 ++ (⟨#[32, 105, 110, 32]⟩ : ByteArray)) ++ ((((((t196 ++ (⟨#[46]⟩ : ByteArray)) ++ t197) ++ (⟨#[46]⟩ : ByteArray)) ++ t198) ++ (⟨#[46]⟩ : ByteArray)) ++ t199)) ++ (⟨#[47]⟩ : ByteArray)) ++ t200)) else (none))) else (none)) else (none)) else (none)) else (none))) else (none)) else (none)) = some r := H
            have A56 := Aside0.mk A560
            clear A560
            by_cases c57 : (((t196 ++ (⟨#[46]⟩ : ByteArray)) ++ t197) ++ (⟨#[46]⟩ : ByteArray)).size + t198.size ≤ 9223372036854775807
            · rw [if_pos c57] at H
              have c57b0 := eq_true c57
              have c57b1 : decide ((((t196 ++ (⟨#[46]⟩ : ByteArray)) ++ t197) ++ (⟨#[46]⟩ : ByteArray)).size + t198.size ≤ 9223372036854775807) = true := decide_eq_true c57
              try have c57b2 : (9223372036854775807 < (((t196 ++ (⟨#[46]⟩ : ByteArray)) ++ t197) ++ (⟨#[46]⟩ : ByteArray)).size + t198.size) = False := eq_false (Nat.not_lt.2 c57)
              try (have c57b4 := c57b2; simp only [ByteArray.size_append, show (⟨#[46]⟩ : ByteArray).size = 1 from rfl] at c57b4)
              try (have c57b5 := c57b2; simp only [ByteArray.size_append, show (⟨#[46]⟩ : ByteArray).size = 1 from rfl, Nat.add_assoc, Nat.reduceAdd] at c57b5)
              try (have c57b3 := c57b2; simp only [ByteArray.size_append] at c57b3)
              by_cases c58 : ((((t196 ++ (⟨#[46]⟩ : ByteArray)) ++ t197) ++ (⟨#[46]⟩ : ByteArray)) ++ t198).size + 1 ≤ 9223372036854775807
              · rw [if_pos c58] at H
                have c58b0 := eq_true c58
                have c58b1 : decide (((((t196 ++ (⟨#[46]⟩ : ByteArray)) ++ t197) ++ (⟨#[46]⟩ : ByteArray)) ++ t198).size + 1 ≤ 9223372036854775807) = true := decide_eq_true c58
                try have c58b2 : (9223372036854775807 < ((((t196 ++ (⟨#[46]⟩ : ByteArray)) ++ t197) ++ (⟨#[46]⟩ : ByteArray)) ++ t198).size + 1) = False := eq_false (Nat.not_lt.2 c58)
                try (have c58b4 := c58b2; simp only [ByteArray.size_append, show (⟨#[46]⟩ : ByteArray).size = 1 from rfl] at c58b4)
                try (have c58b5 := c58b2; simp only [ByteArray.size_append, show (⟨#[46]⟩ : ByteArray).size = 1 from rfl, Nat.add_assoc, Nat.reduceAdd] at c58b5)
                try (have c58b3 := c58b2; simp only [ByteArray.size_append] at c58b3)
                replace H := Option.bind_eq_some_iff.mp H
                obtain ⟨t199, A590, H⟩ := H
                replace H : (if (((((t196 ++ (⟨#[46]⟩ : ByteArray)) ++ t197) ++ (⟨#[46]⟩ : ByteArray)) ++ t198) ++ (⟨#[46]⟩ : ByteArray)).size + t199.size ≤ 9223372036854775807 then (if a0_1.size + 4 ≤ 9223372036854775807 then (if (a0_1 ++ (⟨#[32, 105, 110, 32]⟩ : ByteArray)).size + ((((((t196 ++ (⟨#[46]⟩ : ByteArray)) ++ t197) ++ (⟨#[46]⟩ : ByteArray)) ++ t198) ++ (⟨#[46]⟩ : ByteArray)) ++ t199).size ≤ 9223372036854775807 then (if ((a0_1 ++ (⟨#[32, 105, 110, 32]⟩ : ByteArray)) ++ ((((((t196 ++ (⟨#[46]⟩ : ByteArray)) ++ t197) ++ (⟨#[46]⟩ : ByteArray)) ++ t198) ++ (⟨#[46]⟩ : ByteArray)) ++ t199)).size + 1 ≤ 9223372036854775807 then ((patchbayref4_Digits.f k a0_3).bind fun t200 => (if (((a0_1 ++ (⟨#[32, 105, 110, 32]⟩ : ByteArray)) ++ ((((((t196 ++ (⟨#[46]⟩ : ByteArray)) ++ t197) ++ (⟨#[46]⟩ : ByteArray)) ++ t198) ++ (⟨#[46]⟩ : ByteArray)) ++ t199)) ++ (⟨#[47]⟩ : ByteArray)).size + t200.size ≤ 9223372036854775807 then (some ((((a0_1 ++ (⟨#[32, 105, 110, 32]⟩ : ByteArray)) ++ ((((((t196 ++ (⟨#[46]⟩ : ByteArray)) ++ t197) ++ (⟨#[46]⟩ : ByteArray)) ++ t198) ++ (⟨#[46]⟩ : ByteArray)) ++ t199)) ++ (⟨#[47]⟩ : ByteArray)) ++ t200)) else (none))) else (none)) else (none)) else (none)) else (none)) = some r := H
                have A59 := Aside0.mk A590
                clear A590
                by_cases c60 : (((((t196 ++ (⟨#[46]⟩ : ByteArray)) ++ t197) ++ (⟨#[46]⟩ : ByteArray)) ++ t198) ++ (⟨#[46]⟩ : ByteArray)).size + t199.size ≤ 9223372036854775807
                · rw [if_pos c60] at H
                  have c60b0 := eq_true c60
                  have c60b1 : decide ((((((t196 ++ (⟨#[46]⟩ : ByteArray)) ++ t197) ++ (⟨#[46]⟩ : ByteArray)) ++ t198) ++ (⟨#[46]⟩ : ByteArray)).size + t199.size ≤ 9223372036854775807) = true := decide_eq_true c60
                  try have c60b2 : (9223372036854775807 < (((((t196 ++ (⟨#[46]⟩ : ByteArray)) ++ t197) ++ (⟨#[46]⟩ : ByteArray)) ++ t198) ++ (⟨#[46]⟩ : ByteArray)).size + t199.size) = False := eq_false (Nat.not_lt.2 c60)
                  try (have c60b4 := c60b2; simp only [ByteArray.size_append, show (⟨#[46]⟩ : ByteArray).size = 1 from rfl] at c60b4)
                  try (have c60b5 := c60b2; simp only [ByteArray.size_append, show (⟨#[46]⟩ : ByteArray).size = 1 from rfl, Nat.add_assoc, Nat.reduceAdd] at c60b5)
                  try (have c60b3 := c60b2; simp only [ByteArray.size_append] at c60b3)
                  by_cases c61 : a0_1.size + 4 ≤ 9223372036854775807
                  · rw [if_pos c61] at H
                    have c61b0 := eq_true c61
                    have c61b1 : decide (a0_1.size + 4 ≤ 9223372036854775807) = true := decide_eq_true c61
                    try have c61b2 : (9223372036854775807 < a0_1.size + 4) = False := eq_false (Nat.not_lt.2 c61)
                    by_cases c62 : (a0_1 ++ (⟨#[32, 105, 110, 32]⟩ : ByteArray)).size + ((((((t196 ++ (⟨#[46]⟩ : ByteArray)) ++ t197) ++ (⟨#[46]⟩ : ByteArray)) ++ t198) ++ (⟨#[46]⟩ : ByteArray)) ++ t199).size ≤ 9223372036854775807
                    · rw [if_pos c62] at H
                      have c62b0 := eq_true c62
                      have c62b1 : decide ((a0_1 ++ (⟨#[32, 105, 110, 32]⟩ : ByteArray)).size + ((((((t196 ++ (⟨#[46]⟩ : ByteArray)) ++ t197) ++ (⟨#[46]⟩ : ByteArray)) ++ t198) ++ (⟨#[46]⟩ : ByteArray)) ++ t199).size ≤ 9223372036854775807) = true := decide_eq_true c62
                      try have c62b2 : (9223372036854775807 < (a0_1 ++ (⟨#[32, 105, 110, 32]⟩ : ByteArray)).size + ((((((t196 ++ (⟨#[46]⟩ : ByteArray)) ++ t197) ++ (⟨#[46]⟩ : ByteArray)) ++ t198) ++ (⟨#[46]⟩ : ByteArray)) ++ t199).size) = False := eq_false (Nat.not_lt.2 c62)
                      try (have c62b4 := c62b2; simp only [ByteArray.size_append, show (⟨#[32, 105, 110, 32]⟩ : ByteArray).size = 4 from rfl, show (⟨#[46]⟩ : ByteArray).size = 1 from rfl] at c62b4)
                      try (have c62b5 := c62b2; simp only [ByteArray.size_append, show (⟨#[32, 105, 110, 32]⟩ : ByteArray).size = 4 from rfl, show (⟨#[46]⟩ : ByteArray).size = 1 from rfl, Nat.add_assoc, Nat.reduceAdd] at c62b5)
                      try (have c62b3 := c62b2; simp only [ByteArray.size_append] at c62b3)
                      by_cases c63 : ((a0_1 ++ (⟨#[32, 105, 110, 32]⟩ : ByteArray)) ++ ((((((t196 ++ (⟨#[46]⟩ : ByteArray)) ++ t197) ++ (⟨#[46]⟩ : ByteArray)) ++ t198) ++ (⟨#[46]⟩ : ByteArray)) ++ t199)).size + 1 ≤ 9223372036854775807
                      · rw [if_pos c63] at H
                        have c63b0 := eq_true c63
                        have c63b1 : decide (((a0_1 ++ (⟨#[32, 105, 110, 32]⟩ : ByteArray)) ++ ((((((t196 ++ (⟨#[46]⟩ : ByteArray)) ++ t197) ++ (⟨#[46]⟩ : ByteArray)) ++ t198) ++ (⟨#[46]⟩ : ByteArray)) ++ t199)).size + 1 ≤ 9223372036854775807) = true := decide_eq_true c63
                        try have c63b2 : (9223372036854775807 < ((a0_1 ++ (⟨#[32, 105, 110, 32]⟩ : ByteArray)) ++ ((((((t196 ++ (⟨#[46]⟩ : ByteArray)) ++ t197) ++ (⟨#[46]⟩ : ByteArray)) ++ t198) ++ (⟨#[46]⟩ : ByteArray)) ++ t199)).size + 1) = False := eq_false (Nat.not_lt.2 c63)
                        try (have c63b4 := c63b2; simp only [ByteArray.size_append, show (⟨#[32, 105, 110, 32]⟩ : ByteArray).size = 4 from rfl, show (⟨#[46]⟩ : ByteArray).size = 1 from rfl] at c63b4)
                        try (have c63b5 := c63b2; simp only [ByteArray.size_append, show (⟨#[32, 105, 110, 32]⟩ : ByteArray).size = 4 from rfl, show (⟨#[46]⟩ : ByteArray).size = 1 from rfl, Nat.add_assoc, Nat.reduceAdd] at c63b5)
                        try (have c63b3 := c63b2; simp only [ByteArray.size_append] at c63b3)
                        replace H := Option.bind_eq_some_iff.mp H
                        obtain ⟨t200, A640, H⟩ := H
                        replace H : (if (((a0_1 ++ (⟨#[32, 105, 110, 32]⟩ : ByteArray)) ++ ((((((t196 ++ (⟨#[46]⟩ : ByteArray)) ++ t197) ++ (⟨#[46]⟩ : ByteArray)) ++ t198) ++ (⟨#[46]⟩ : ByteArray)) ++ t199)) ++ (⟨#[47]⟩ : ByteArray)).size + t200.size ≤ 9223372036854775807 then (some ((((a0_1 ++ (⟨#[32, 105, 110, 32]⟩ : ByteArray)) ++ ((((((t196 ++ (⟨#[46]⟩ : ByteArray)) ++ t197) ++ (⟨#[46]⟩ : ByteArray)) ++ t198) ++ (⟨#[46]⟩ : ByteArray)) ++ t199)) ++ (⟨#[47]⟩ : ByteArray)) ++ t200)) else (none)) = some r := H
                        have A64 := Aside0.mk A640
                        clear A640
                        by_cases c65 : (((a0_1 ++ (⟨#[32, 105, 110, 32]⟩ : ByteArray)) ++ ((((((t196 ++ (⟨#[46]⟩ : ByteArray)) ++ t197) ++ (⟨#[46]⟩ : ByteArray)) ++ t198) ++ (⟨#[46]⟩ : ByteArray)) ++ t199)) ++ (⟨#[47]⟩ : ByteArray)).size + t200.size ≤ 9223372036854775807
                        · rw [if_pos c65] at H
                          have c65b0 := eq_true c65
                          have c65b1 : decide ((((a0_1 ++ (⟨#[32, 105, 110, 32]⟩ : ByteArray)) ++ ((((((t196 ++ (⟨#[46]⟩ : ByteArray)) ++ t197) ++ (⟨#[46]⟩ : ByteArray)) ++ t198) ++ (⟨#[46]⟩ : ByteArray)) ++ t199)) ++ (⟨#[47]⟩ : ByteArray)).size + t200.size ≤ 9223372036854775807) = true := decide_eq_true c65
                          try have c65b2 : (9223372036854775807 < (((a0_1 ++ (⟨#[32, 105, 110, 32]⟩ : ByteArray)) ++ ((((((t196 ++ (⟨#[46]⟩ : ByteArray)) ++ t197) ++ (⟨#[46]⟩ : ByteArray)) ++ t198) ++ (⟨#[46]⟩ : ByteArray)) ++ t199)) ++ (⟨#[47]⟩ : ByteArray)).size + t200.size) = False := eq_false (Nat.not_lt.2 c65)
                          try (have c65b4 := c65b2; simp only [ByteArray.size_append, show (⟨#[32, 105, 110, 32]⟩ : ByteArray).size = 4 from rfl, show (⟨#[46]⟩ : ByteArray).size = 1 from rfl, show (⟨#[47]⟩ : ByteArray).size = 1 from rfl] at c65b4)
                          try (have c65b5 := c65b2; simp only [ByteArray.size_append, show (⟨#[32, 105, 110, 32]⟩ : ByteArray).size = 4 from rfl, show (⟨#[46]⟩ : ByteArray).size = 1 from rfl, show (⟨#[47]⟩ : ByteArray).size = 1 from rfl, Nat.add_assoc, Nat.reduceAdd] at c65b5)
                          try (have c65b3 := c65b2; simp only [ByteArray.size_append] at c65b3)
                          obtain rfl := Option.some.inj H
                          go_enter Tryd.func8, Tryd.ntmps8
                          try go_wp2_with (first | ((with_reducible refine gate_dst (N := 2) rfl ?_); refine box_event ?hg (N := 2) ?hd (cs := #[.string a0_0, .string a0_1, .int .i64 a0_2, .int .i64 a0_3, .slice A0_4 l0_4.length c0_4]) (t := 24) ?hr ?_; (case hd => rfl); (case hg => rfl); (case hr => first | (go_simp; done) | (go_simp; rfl)); intro gb185 hg w66 hbox hb; have n0_ := Aside0.mk (below_step (by repeat (first | (with_reducible first | exact HB.out | apply below_alloc | apply pw_below_drewN | apply below_drew1) | exact HB.out)) hb); have n1_ := Aside0.mk (hbox); have n2_ := Aside0.mk ((by rw [hg]; exact (below_size (by repeat (first | (with_reducible first | exact HB.out | apply below_alloc | apply pw_below_drewN | apply below_drew1) | exact HB.out))) : w.heap.size ≤ gb185)); have n3_ := Aside0.mk ((by rw [hg]; exact (below_size (by repeat (first | (with_reducible first | exact HB.out | apply below_alloc | apply pw_below_drewN | apply below_drew1) | exact HB.out))) : w.heap.size ≤ gb185)); clear HB; have HB := n0_; have BK185 := n1_; have GW185 := n2_; have GE185 := n3_; clear n0_ n1_ n2_ n3_; clear hb hbox hg; have hcz67_0 : w66.cell? ⟨gb185, 0, none⟩ = some (.string a0_0) := (blk_cell BK185.out 0).trans rfl; have hcz67_1 : w66.cell? ⟨gb185, 1, none⟩ = some (.string a0_1) := (blk_cell BK185.out 1).trans rfl; have hcz67_2 : w66.cell? ⟨gb185, 2, none⟩ = some (.int .i64 a0_2) := (blk_cell BK185.out 2).trans rfl; have hcz67_3 : w66.cell? ⟨gb185, 3, none⟩ = some (.int .i64 a0_3) := (blk_cell BK185.out 3).trans rfl; have hcz67_4 : w66.cell? ⟨gb185, 4, none⟩ = some (.slice A0_4 l0_4.length c0_4) := (blk_cell BK185.out 4).trans rfl; have hfz67_0 := blk_frozen BK185.out 0; have hfz67_1 := blk_frozen BK185.out 1; have hfz67_2 := blk_frozen BK185.out 2; have hfz67_3 := blk_frozen BK185.out 3; have hfz67_4 := blk_frozen BK185.out 4) | ((with_reducible refine gate_callee (f := 21) rfl ?_); refine goesL_ (some 64) rfl rfl Tryd.func21 (by kernel_rfl) rfl #[.int .i64 (wrap64 (Int.tdiv a0_2 16777216))] rfl (by (try simp only [List.map_toArray, List.map_cons, List.map_nil]); first | done | rfl | (simp only [List.length_drop, List.length_take]; rfl)) ?_; (with_reducible refine (patchbayref4_Digits.calls k (wrap64 (Int.tdiv a0_2 16777216)) t196 _ A51.out).mono ?_); rintro e w' ⟨rfl, ⟨nd, rfl⟩⟩; refine ⟨_, rfl, ?_⟩) | ((with_reducible refine gate_callee (f := 21) rfl ?_); refine goesL_ (some 69) rfl rfl Tryd.func21 (by kernel_rfl) rfl #[.int .i64 (Int.tmod (wrap64 (Int.tdiv a0_2 65536)) 256)] rfl (by (try simp only [List.map_toArray, List.map_cons, List.map_nil]); first | done | rfl | (simp only [List.length_drop, List.length_take]; rfl)) ?_; (with_reducible refine (patchbayref4_Digits.calls k (Int.tmod (wrap64 (Int.tdiv a0_2 65536)) 256) t197 _ A53.out).mono ?_); rintro e w' ⟨rfl, ⟨nd, rfl⟩⟩; refine ⟨_, rfl, ?_⟩) | ((with_reducible refine gate_callee (f := 21) rfl ?_); refine goesL_ (some 75) rfl rfl Tryd.func21 (by kernel_rfl) rfl #[.int .i64 (Int.tmod (wrap64 (Int.tdiv a0_2 256)) 256)] rfl (by (try simp only [List.map_toArray, List.map_cons, List.map_nil]); first | done | rfl | (simp only [List.length_drop, List.length_take]; rfl)) ?_; (with_reducible refine (patchbayref4_Digits.calls k (Int.tmod (wrap64 (Int.tdiv a0_2 256)) 256) t198 _ A56.out).mono ?_); rintro e w' ⟨rfl, ⟨nd, rfl⟩⟩; refine ⟨_, rfl, ?_⟩) | ((with_reducible refine gate_callee (f := 21) rfl ?_); refine goesL_ (some 80) rfl rfl Tryd.func21 (by kernel_rfl) rfl #[.int .i64 (Int.tmod a0_2 256)] rfl (by (try simp only [List.map_toArray, List.map_cons, List.map_nil]); first | done | rfl | (simp only [List.length_drop, List.length_take]; rfl)) ?_; (with_reducible refine (patchbayref4_Digits.calls k (Int.tmod a0_2 256) t199 _ A59.out).mono ?_); rintro e w' ⟨rfl, ⟨nd, rfl⟩⟩; refine ⟨_, rfl, ?_⟩))
                          (try (rw [drewN_self w66]; generalize hq_ : World.drewN w66 _ = w66; have n0_ : Aside0 (w66.heap[gb185]? = some (.cells #[.string a0_0, .string a0_1, .int .i64 a0_2, .int .i64 a0_3, .slice A0_4 l0_4.length c0_4] 24 (0, 0))) := ⟨by rw [← hq_]; exact (by (with_reducible repeat (first | refine blk_drewN ?_ _ | refine blk_drew ?_ | refine blk_alloc ?_ _)); exact BK185.out)⟩; have n1_ : Aside0 (Below w.heap.size w w66) := ⟨by rw [← hq_]; exact (by repeat (first | (with_reducible first | exact HB.out | apply below_alloc | apply pw_below_drewN | apply below_drew1 | refine below_set ?_ GE185.out) | exact HB.out))⟩; clear BK185 HB hq_; have BK185 := n0_; have HB := n1_; clear n0_ n1_))
                          have n0_ := Aside0.mk (blk_drew BK185.out)
                          have n1_ := Aside0.mk (below_drew1 HB.out)
                          clear BK185
                          clear HB
                          have BK185 := n0_
                          have HB := n1_
                          clear n0_ n1_
                          refine start_ (n := 11) (S := fun w' => w'.cell? ⟨gb185, 0, none⟩ = some (.string a0_0) ∧ w'.cell? ⟨gb185, 1, none⟩ = some (.string a0_1) ∧ w'.cell? ⟨gb185, 2, none⟩ = some (.int .i64 a0_2) ∧ w'.cell? ⟨gb185, 3, none⟩ = some (.int .i64 a0_3) ∧ w'.cell? ⟨gb185, 4, none⟩ = some (.slice A0_4 l0_4.length c0_4)) (ds := []) #[false, false, false, false, false, false, false, false, false, false, false] (by kernel_rfl) rfl rfl ⟨(blk_cell BK185.out 0).trans rfl, (blk_cell BK185.out 1).trans rfl, (blk_cell BK185.out 2).trans rfl, (blk_cell BK185.out 3).trans rfl, (blk_cell BK185.out 4).trans rfl⟩ (fun hHeld => ?_); refine with_tabW patchbayref4_SiftString.tab18 patchbayref4_SiftString.bits18 (fun HT_ HW_ => ?_)
                          generalize w66.drew = w68 at BK185 HB hHeld ⊢
                          refine pure_ (i := 0) (N := some 82) (v := ?_) (a' := ?_) #[true, false, false, false, false, false, false, false, false, false, false] rfl rfl (any_of HT_.out (by kernel_rfl)) (fun _ _ _ h => h) (Or.inl ⟨by rfl, ?_⟩) ?_ ?_
                          rotate_left
                          · intro w'
                            go_simp
                            with_reducible rfl
                          rotate_left
                          · simp only [Act.put, List.setIfInBounds_toArray, List.set_cons_zero, List.set_cons_succ, i64_w, i32_w]
                            rfl
                          refine pure_ (i := 3) (N := some 85) (v := ?_) (a' := ?_) #[true, false, false, true, false, false, false, false, false, false, false] rfl rfl (any_of HT_.out (by kernel_rfl)) (fun _ _ _ h => h) (Or.inl ⟨by rfl, ?_⟩) ?_ ?_
                          rotate_left
                          · intro w'
                            go_simp
                            with_reducible rfl
                          rotate_left
                          · simp only [Act.put, List.setIfInBounds_toArray, List.set_cons_zero, List.set_cons_succ, i64_w, i32_w]
                            rfl
                          refine pure_ (i := 6) (N := some 88) (v := ?_) (a' := ?_) #[true, false, false, true, false, false, true, false, false, false, false] rfl rfl (any_of HT_.out (by kernel_rfl)) (fun _ _ _ h => h) (Or.inl ⟨by rfl, ?_⟩) ?_ ?_
                          rotate_left
                          · intro w'
                            go_simp
                            with_reducible rfl
                          rotate_left
                          · simp only [Act.put, List.setIfInBounds_toArray, List.set_cons_zero, List.set_cons_succ, i64_w, i32_w]
                            rfl
                          refine take_ (i := 1) (N := some 83) (v := ?_) (a' := ?_) #[true, true, false, true, false, false, true, false, false, false, false] rfl rfl (take_ofW HT_.out HW_.out (by kernel_rfl)) (fun _ _ _ h => h) (Or.inl ⟨by rfl, ?_⟩) hHeld ?_ ?_
                          rotate_left
                          · rintro w' ⟨s0, s1, s2, s3, s4⟩
                            go_simp
                            with_reducible rfl
                          rotate_left
                          · simp only [Act.put, List.setIfInBounds_toArray, List.set_cons_zero, List.set_cons_succ, i64_w, i32_w]
                            rfl
                          refine pure_ (i := 2) (N := some 84) (v := ?_) (a' := ?_) #[true, true, true, true, false, false, true, false, false, false, false] rfl rfl (any_of HT_.out (by kernel_rfl)) (fun _ _ _ h => h) (Or.inl ⟨by rfl, ?_⟩) ?_ ?_
                          rotate_left
                          · intro w'
                            go_simp
                            with_reducible rfl
                          rotate_left
                          · simp only [Act.put, List.setIfInBounds_toArray, List.set_cons_zero, List.set_cons_succ, i64_w, i32_w]
                            rfl
                          refine pure_ (i := 4) (N := some 86) (v := ?_) (a' := ?_) #[true, true, true, true, true, false, true, false, false, false, false] rfl rfl (any_of HT_.out (by kernel_rfl)) (fun _ _ _ h => h) (Or.inl ⟨by rfl, ?_⟩) ?_ ?_
                          rotate_left
                          · intro w'
                            go_simp
                            with_reducible rfl
                          rotate_left
                          · simp only [Act.put, List.setIfInBounds_toArray, List.set_cons_zero, List.set_cons_succ, i64_w, i32_w]
                            rfl
                          refine pure_ (i := 5) (N := some 87) (v := ?_) (a' := ?_) #[true, true, true, true, true, true, true, false, false, false, false] rfl rfl (any_of HT_.out (by kernel_rfl)) (fun _ _ _ h => h) (Or.inl ⟨by rfl, ?_⟩) ?_ ?_
                          rotate_left
                          · intro w'
                            go_simp
                            with_reducible rfl
                          rotate_left
                          · simp only [Act.put, List.setIfInBounds_toArray, List.set_cons_zero, List.set_cons_succ, i64_w, i32_w]
                            rfl
                          refine take_ (i := 7) (N := some 89) (v := ?_) (a' := ?_) #[true, true, true, true, true, true, true, true, false, false, false] rfl rfl (take_ofW HT_.out HW_.out (by kernel_rfl)) (fun _ _ _ h => h) (Or.inl ⟨by rfl, ?_⟩) hHeld ?_ ?_
                          rotate_left
                          · rintro w' ⟨s0, s1, s2, s3, s4⟩
                            go_simp
                            with_reducible rfl
                          rotate_left
                          · simp only [Act.put, List.setIfInBounds_toArray, List.set_cons_zero, List.set_cons_succ, i64_w, i32_w]
                            rfl
                          refine one_ (i := 8) (N := some 90) #[true, true, true, true, true, true, true, true, true, false, false] rfl rfl (one_of HT_.out (by kernel_rfl)) (by decide) (fun K hK => ?_)
                          refine goes_ Tryd.func21 (by kernel_rfl) rfl #[.int .i64 a0_3] (by rfl) rfl rfl (by (try simp only [List.map_toArray, List.map_cons, List.map_nil]); first | done | rfl | (simp only [List.length_drop, List.length_take]; rfl)) ?_
                          with_reducible refine (patchbayref4_Digits.calls k a0_3 t200 _ A64.out).mono ?_
                          rintro e w' ⟨rfl, ⟨nd, rfl⟩⟩
                          refine ⟨_, rfl, ?_⟩
                          refine hK.out _ _ ⟨(blk_cell BK185.out 0).trans rfl, (blk_cell BK185.out 1).trans rfl, (blk_cell BK185.out 2).trans rfl, (blk_cell BK185.out 3).trans rfl, (blk_cell BK185.out 4).trans rfl⟩ (fun hHeld => ?_)
                          clear hK K
                          refine norm_ (a' := ?_) ?_ ?_
                          rotate_left
                          · show Act.put _ (some 90) _ = _
                            simp only [Act.put, List.setIfInBounds_toArray, List.set_cons_zero, List.set_cons_succ, i64_w, i32_w]
                            rfl
                          refine pure_ (i := 9) (N := some 91) (v := ?_) (a' := ?_) #[true, true, true, true, true, true, true, true, true, true, false] rfl rfl (any_of HT_.out (by kernel_rfl)) (fun _ _ _ h => h) (Or.inl ⟨by rfl, ?_⟩) ?_ ?_
                          rotate_left
                          · intro w'
                            go_simp
                            with_reducible rfl
                          rotate_left
                          · simp only [Act.put, List.setIfInBounds_toArray, List.set_cons_zero, List.set_cons_succ, i64_w, i32_w]
                            rfl
                          refine pure_ (i := 10) (N := some 4) (v := ?_) (a' := ?_) #[true, true, true, true, true, true, true, true, true, true, true] rfl rfl (any_of HT_.out (by kernel_rfl)) (fun _ _ _ h => h) (Or.inl ⟨by rfl, ?_⟩) ?_ ?_
                          rotate_left
                          · intro w'
                            go_simp
                            with_reducible rfl
                          rotate_left
                          · simp only [Act.put, List.setIfInBounds_toArray, List.set_cons_zero, List.set_cons_succ, i64_w, i32_w]
                            rfl
                          refine done_ (done_of HT_.out (by kernel_rfl)) ?_
                          try go_wp2
                          go_ret
                          exact ⟨by first | rfl | (simp [errW_none, errW_some] <;> rfl) | (simp [*, errW_none, errW_some] <;> rfl), by repeat (first | (with_reducible first | exact HB.out | apply below_alloc | apply pw_below_drewN | apply below_drew1 | refine below_set ?_ GE185.out) | exact HB.out)⟩
                        · rw [if_neg c65] at H
                          exact absurd H (by simp)
                      · rw [if_neg c63] at H
                        exact absurd H (by simp)
                    · rw [if_neg c62] at H
                      exact absurd H (by simp)
                  · rw [if_neg c61] at H
                    exact absurd H (by simp)
                · rw [if_neg c60] at H
                  exact absurd H (by simp)
              · rw [if_neg c58] at H
                exact absurd H (by simp)
            · rw [if_neg c57] at H
              exact absurd H (by simp)
          · rw [if_neg c55] at H
            exact absurd H (by simp)
        · rw [if_neg c54] at H
          exact absurd H (by simp)
      · rw [if_neg c52] at H
        exact absurd H (by simp)
    · rw [if_neg c50] at H
      have c50b0 : (a0_0.toList == ([105, 110] : List UInt8)) = false := beq_eq_false_iff_ne.mpr c50
      have c50b1 : (a0_0.toList != ([105, 110] : List UInt8)) = true := bne_iff_ne.mpr c50
      by_cases c69 : a0_1.size + 1 ≤ 9223372036854775807
      · rw [if_pos c69] at H
        have c69b0 := eq_true c69
        have c69b1 : decide (a0_1.size + 1 ≤ 9223372036854775807) = true := decide_eq_true c69
        try have c69b2 : (9223372036854775807 < a0_1.size + 1) = False := eq_false (Nat.not_lt.2 c69)
        by_cases c70 : (a0_1 ++ (⟨#[32]⟩ : ByteArray)).size + a0_0.size ≤ 9223372036854775807
        · rw [if_pos c70] at H
          have c70b0 := eq_true c70
          have c70b1 : decide ((a0_1 ++ (⟨#[32]⟩ : ByteArray)).size + a0_0.size ≤ 9223372036854775807) = true := decide_eq_true c70
          try have c70b2 : (9223372036854775807 < (a0_1 ++ (⟨#[32]⟩ : ByteArray)).size + a0_0.size) = False := eq_false (Nat.not_lt.2 c70)
          try (have c70b4 := c70b2; simp only [ByteArray.size_append, show (⟨#[32]⟩ : ByteArray).size = 1 from rfl] at c70b4)
          try (have c70b5 := c70b2; simp only [ByteArray.size_append, show (⟨#[32]⟩ : ByteArray).size = 1 from rfl, Nat.add_assoc, Nat.reduceAdd] at c70b5)
          try (have c70b3 := c70b2; simp only [ByteArray.size_append] at c70b3)
          by_cases c71 : ((a0_1 ++ (⟨#[32]⟩ : ByteArray)) ++ a0_0).size + 1 ≤ 9223372036854775807
          · rw [if_pos c71] at H
            have c71b0 := eq_true c71
            have c71b1 : decide (((a0_1 ++ (⟨#[32]⟩ : ByteArray)) ++ a0_0).size + 1 ≤ 9223372036854775807) = true := decide_eq_true c71
            try have c71b2 : (9223372036854775807 < ((a0_1 ++ (⟨#[32]⟩ : ByteArray)) ++ a0_0).size + 1) = False := eq_false (Nat.not_lt.2 c71)
            try (have c71b4 := c71b2; simp only [ByteArray.size_append, show (⟨#[32]⟩ : ByteArray).size = 1 from rfl] at c71b4)
            try (have c71b5 := c71b2; simp only [ByteArray.size_append, show (⟨#[32]⟩ : ByteArray).size = 1 from rfl, Nat.add_assoc, Nat.reduceAdd] at c71b5)
            try (have c71b3 := c71b2; simp only [ByteArray.size_append] at c71b3)
            replace H := Option.bind_eq_some_iff.mp H
            obtain ⟨t201, A720, H⟩ := H
            replace H : (if (((a0_1 ++ (⟨#[32]⟩ : ByteArray)) ++ a0_0) ++ (⟨#[32]⟩ : ByteArray)).size + t201.size ≤ 9223372036854775807 then (some ((((a0_1 ++ (⟨#[32]⟩ : ByteArray)) ++ a0_0) ++ (⟨#[32]⟩ : ByteArray)) ++ t201)) else (none)) = some r := H
            have A72 := Aside0.mk A720
            clear A720
            by_cases c73 : (((a0_1 ++ (⟨#[32]⟩ : ByteArray)) ++ a0_0) ++ (⟨#[32]⟩ : ByteArray)).size + t201.size ≤ 9223372036854775807
            · rw [if_pos c73] at H
              have c73b0 := eq_true c73
              have c73b1 : decide ((((a0_1 ++ (⟨#[32]⟩ : ByteArray)) ++ a0_0) ++ (⟨#[32]⟩ : ByteArray)).size + t201.size ≤ 9223372036854775807) = true := decide_eq_true c73
              try have c73b2 : (9223372036854775807 < (((a0_1 ++ (⟨#[32]⟩ : ByteArray)) ++ a0_0) ++ (⟨#[32]⟩ : ByteArray)).size + t201.size) = False := eq_false (Nat.not_lt.2 c73)
              try (have c73b4 := c73b2; simp only [ByteArray.size_append, show (⟨#[32]⟩ : ByteArray).size = 1 from rfl] at c73b4)
              try (have c73b5 := c73b2; simp only [ByteArray.size_append, show (⟨#[32]⟩ : ByteArray).size = 1 from rfl, Nat.add_assoc, Nat.reduceAdd] at c73b5)
              try (have c73b3 := c73b2; simp only [ByteArray.size_append] at c73b3)
              obtain rfl := Option.some.inj H
              go_enter Tryd.func8, Tryd.ntmps8
              try go_wp2_with (first | ((with_reducible refine gate_dst (N := 2) rfl ?_); refine box_event ?hg (N := 2) ?hd (cs := #[.string a0_0, .string a0_1, .int .i64 a0_2, .int .i64 a0_3, .slice A0_4 l0_4.length c0_4]) (t := 24) ?hr ?_; (case hd => rfl); (case hg => rfl); (case hr => first | (go_simp; done) | (go_simp; rfl)); intro gb185 hg w74 hbox hb; have n0_ := Aside0.mk (below_step (by repeat (first | (with_reducible first | exact HB.out | apply below_alloc | apply pw_below_drewN | apply below_drew1) | exact HB.out)) hb); have n1_ := Aside0.mk (hbox); have n2_ := Aside0.mk ((by rw [hg]; exact (below_size (by repeat (first | (with_reducible first | exact HB.out | apply below_alloc | apply pw_below_drewN | apply below_drew1) | exact HB.out))) : w.heap.size ≤ gb185)); have n3_ := Aside0.mk ((by rw [hg]; exact (below_size (by repeat (first | (with_reducible first | exact HB.out | apply below_alloc | apply pw_below_drewN | apply below_drew1) | exact HB.out))) : w.heap.size ≤ gb185)); clear HB; have HB := n0_; have BK185 := n1_; have GW185 := n2_; have GE185 := n3_; clear n0_ n1_ n2_ n3_; clear hb hbox hg; have hcz75_0 : w74.cell? ⟨gb185, 0, none⟩ = some (.string a0_0) := (blk_cell BK185.out 0).trans rfl; have hcz75_1 : w74.cell? ⟨gb185, 1, none⟩ = some (.string a0_1) := (blk_cell BK185.out 1).trans rfl; have hcz75_2 : w74.cell? ⟨gb185, 2, none⟩ = some (.int .i64 a0_2) := (blk_cell BK185.out 2).trans rfl; have hcz75_3 : w74.cell? ⟨gb185, 3, none⟩ = some (.int .i64 a0_3) := (blk_cell BK185.out 3).trans rfl; have hcz75_4 : w74.cell? ⟨gb185, 4, none⟩ = some (.slice A0_4 l0_4.length c0_4) := (blk_cell BK185.out 4).trans rfl; have hfz75_0 := blk_frozen BK185.out 0; have hfz75_1 := blk_frozen BK185.out 1; have hfz75_2 := blk_frozen BK185.out 2; have hfz75_3 := blk_frozen BK185.out 3; have hfz75_4 := blk_frozen BK185.out 4))
              have n0_ := Aside0.mk (blk_drew BK185.out)
              have n1_ := Aside0.mk (below_drew1 HB.out)
              clear BK185
              clear HB
              have BK185 := n0_
              have HB := n1_
              clear n0_ n1_
              refine start_ (n := 12) (S := fun w' => w'.cell? ⟨gb185, 0, none⟩ = some (.string a0_0) ∧ w'.cell? ⟨gb185, 1, none⟩ = some (.string a0_1) ∧ w'.cell? ⟨gb185, 2, none⟩ = some (.int .i64 a0_2) ∧ w'.cell? ⟨gb185, 3, none⟩ = some (.int .i64 a0_3) ∧ w'.cell? ⟨gb185, 4, none⟩ = some (.slice A0_4 l0_4.length c0_4)) (ds := []) #[false, false, false, false, false, false, false, false, false, false, false, false] (by kernel_rfl) rfl rfl ⟨(blk_cell BK185.out 0).trans rfl, (blk_cell BK185.out 1).trans rfl, (blk_cell BK185.out 2).trans rfl, (blk_cell BK185.out 3).trans rfl, (blk_cell BK185.out 4).trans rfl⟩ (fun hHeld => ?_); refine with_tabW patchbayref4_SiftString.tab19 patchbayref4_SiftString.bits19 (fun HT_ HW_ => ?_)
              generalize w74.drew = w76 at BK185 HB hHeld ⊢
              refine pure_ (i := 0) (N := some 92) (v := ?_) (a' := ?_) #[true, false, false, false, false, false, false, false, false, false, false, false] rfl rfl (any_of HT_.out (by kernel_rfl)) (fun _ _ _ h => h) (Or.inl ⟨by rfl, ?_⟩) ?_ ?_
              rotate_left
              · intro w'
                go_simp
                with_reducible rfl
              rotate_left
              · simp only [Act.put, List.setIfInBounds_toArray, List.set_cons_zero, List.set_cons_succ, i64_w, i32_w]
                rfl
              refine pure_ (i := 3) (N := some 95) (v := ?_) (a' := ?_) #[true, false, false, true, false, false, false, false, false, false, false, false] rfl rfl (any_of HT_.out (by kernel_rfl)) (fun _ _ _ h => h) (Or.inl ⟨by rfl, ?_⟩) ?_ ?_
              rotate_left
              · intro w'
                go_simp
                with_reducible rfl
              rotate_left
              · simp only [Act.put, List.setIfInBounds_toArray, List.set_cons_zero, List.set_cons_succ, i64_w, i32_w]
                rfl
              refine pure_ (i := 7) (N := some 99) (v := ?_) (a' := ?_) #[true, false, false, true, false, false, false, true, false, false, false, false] rfl rfl (any_of HT_.out (by kernel_rfl)) (fun _ _ _ h => h) (Or.inl ⟨by rfl, ?_⟩) ?_ ?_
              rotate_left
              · intro w'
                go_simp
                with_reducible rfl
              rotate_left
              · simp only [Act.put, List.setIfInBounds_toArray, List.set_cons_zero, List.set_cons_succ, i64_w, i32_w]
                rfl
              refine take_ (i := 1) (N := some 93) (v := ?_) (a' := ?_) #[true, true, false, true, false, false, false, true, false, false, false, false] rfl rfl (take_ofW HT_.out HW_.out (by kernel_rfl)) (fun _ _ _ h => h) (Or.inl ⟨by rfl, ?_⟩) hHeld ?_ ?_
              rotate_left
              · rintro w' ⟨s0, s1, s2, s3, s4⟩
                go_simp
                with_reducible rfl
              rotate_left
              · simp only [Act.put, List.setIfInBounds_toArray, List.set_cons_zero, List.set_cons_succ, i64_w, i32_w]
                rfl
              refine pure_ (i := 2) (N := some 94) (v := ?_) (a' := ?_) #[true, true, true, true, false, false, false, true, false, false, false, false] rfl rfl (any_of HT_.out (by kernel_rfl)) (fun _ _ _ h => h) (Or.inl ⟨by rfl, ?_⟩) ?_ ?_
              rotate_left
              · intro w'
                go_simp
                with_reducible rfl
              rotate_left
              · simp only [Act.put, List.setIfInBounds_toArray, List.set_cons_zero, List.set_cons_succ, i64_w, i32_w]
                rfl
              refine take_ (i := 4) (N := some 96) (v := ?_) (a' := ?_) #[true, true, true, true, true, false, false, true, false, false, false, false] rfl rfl (take_ofW HT_.out HW_.out (by kernel_rfl)) (fun _ _ _ h => h) (Or.inl ⟨by rfl, ?_⟩) hHeld ?_ ?_
              rotate_left
              · rintro w' ⟨s0, s1, s2, s3, s4⟩
                go_simp
                with_reducible rfl
              rotate_left
              · simp only [Act.put, List.setIfInBounds_toArray, List.set_cons_zero, List.set_cons_succ, i64_w, i32_w]
                rfl
              refine pure_ (i := 5) (N := some 97) (v := ?_) (a' := ?_) #[true, true, true, true, true, true, false, true, false, false, false, false] rfl rfl (any_of HT_.out (by kernel_rfl)) (fun _ _ _ h => h) (Or.inl ⟨by rfl, ?_⟩) ?_ ?_
              rotate_left
              · intro w'
                go_simp
                with_reducible rfl
              rotate_left
              · simp only [Act.put, List.setIfInBounds_toArray, List.set_cons_zero, List.set_cons_succ, i64_w, i32_w]
                rfl
              refine pure_ (i := 6) (N := some 98) (v := ?_) (a' := ?_) #[true, true, true, true, true, true, true, true, false, false, false, false] rfl rfl (any_of HT_.out (by kernel_rfl)) (fun _ _ _ h => h) (Or.inl ⟨by rfl, ?_⟩) ?_ ?_
              rotate_left
              · intro w'
                go_simp
                with_reducible rfl
              rotate_left
              · simp only [Act.put, List.setIfInBounds_toArray, List.set_cons_zero, List.set_cons_succ, i64_w, i32_w]
                rfl
              refine take_ (i := 8) (N := some 100) (v := ?_) (a' := ?_) #[true, true, true, true, true, true, true, true, true, false, false, false] rfl rfl (take_ofW HT_.out HW_.out (by kernel_rfl)) (fun _ _ _ h => h) (Or.inl ⟨by rfl, ?_⟩) hHeld ?_ ?_
              rotate_left
              · rintro w' ⟨s0, s1, s2, s3, s4⟩
                go_simp
                with_reducible rfl
              rotate_left
              · simp only [Act.put, List.setIfInBounds_toArray, List.set_cons_zero, List.set_cons_succ, i64_w, i32_w]
                rfl
              refine one_ (i := 9) (N := some 101) #[true, true, true, true, true, true, true, true, true, true, false, false] rfl rfl (one_of HT_.out (by kernel_rfl)) (by decide) (fun K hK => ?_)
              refine goes_ Tryd.func21 (by kernel_rfl) rfl #[.int .i64 a0_2] (by rfl) rfl rfl (by (try simp only [List.map_toArray, List.map_cons, List.map_nil]); first | done | rfl | (simp only [List.length_drop, List.length_take]; rfl)) ?_
              with_reducible refine (patchbayref4_Digits.calls k a0_2 t201 _ A72.out).mono ?_
              rintro e w' ⟨rfl, ⟨nd, rfl⟩⟩
              refine ⟨_, rfl, ?_⟩
              refine hK.out _ _ ⟨(blk_cell BK185.out 0).trans rfl, (blk_cell BK185.out 1).trans rfl, (blk_cell BK185.out 2).trans rfl, (blk_cell BK185.out 3).trans rfl, (blk_cell BK185.out 4).trans rfl⟩ (fun hHeld => ?_)
              clear hK K
              refine norm_ (a' := ?_) ?_ ?_
              rotate_left
              · show Act.put _ (some 101) _ = _
                simp only [Act.put, List.setIfInBounds_toArray, List.set_cons_zero, List.set_cons_succ, i64_w, i32_w]
                rfl
              refine pure_ (i := 10) (N := some 102) (v := ?_) (a' := ?_) #[true, true, true, true, true, true, true, true, true, true, true, false] rfl rfl (any_of HT_.out (by kernel_rfl)) (fun _ _ _ h => h) (Or.inl ⟨by rfl, ?_⟩) ?_ ?_
              rotate_left
              · intro w'
                go_simp
                with_reducible rfl
              rotate_left
              · simp only [Act.put, List.setIfInBounds_toArray, List.set_cons_zero, List.set_cons_succ, i64_w, i32_w]
                rfl
              refine pure_ (i := 11) (N := some 4) (v := ?_) (a' := ?_) #[true, true, true, true, true, true, true, true, true, true, true, true] rfl rfl (any_of HT_.out (by kernel_rfl)) (fun _ _ _ h => h) (Or.inl ⟨by rfl, ?_⟩) ?_ ?_
              rotate_left
              · intro w'
                go_simp
                with_reducible rfl
              rotate_left
              · simp only [Act.put, List.setIfInBounds_toArray, List.set_cons_zero, List.set_cons_succ, i64_w, i32_w]
                rfl
              refine done_ (done_of HT_.out (by kernel_rfl)) ?_
              try go_wp2
              go_ret
              exact ⟨by first | rfl | (simp [errW_none, errW_some] <;> rfl) | (simp [*, errW_none, errW_some] <;> rfl), by repeat (first | (with_reducible first | exact HB.out | apply below_alloc | apply pw_below_drewN | apply below_drew1 | refine below_set ?_ GE185.out) | exact HB.out)⟩
            · rw [if_neg c73] at H
              exact absurd H (by simp)
          · rw [if_neg c71] at H
            exact absurd H (by simp)
        · rw [if_neg c70] at H
          exact absurd H (by simp)
      · rw [if_neg c69] at H
        exact absurd H (by simp)

set_option maxHeartbeats 8000000 in
set_option maxRecDepth 100000 in
theorem patchbayref4_SiftString.calls (k : Nat) : ∀ (a0_0 : ByteArray) (a0_1 : ByteArray) (a0_2 : Int) (a0_3 : Int) (A0_4 : Option Addr) (c0_4 : Nat) (l0_4 : List (S24)) (a1 : Int) (r : ByteArray) (w : World) (hr0_4 : Kd.C k24 w A0_4 l0_4.length l0_4) (hc0_4 : l0_4.length ≤ c0_4) (h : patchbayref4_SiftString.f k a0_0 a0_1 a0_2 a0_3 l0_4 a1 = some r),
    Calls Tryd.prog 8 #[.agg #[.string a0_0, .string a0_1, .int .i64 a0_2, .int .i64 a0_3, .slice A0_4 l0_4.length c0_4], .int .i64 a1] w fun e w' => e = .returned (.string r) ∧ Below w.heap.size w w' := by
  induction k using Nat.strongRecOn with
  | _ k ih =>
  intro a0_0 a0_1 a0_2 a0_3 A0_4 c0_4 l0_4 a1 r w hr0_4 hc0_4 h
  cases k with
  | zero => exact absurd h (by simp [patchbayref4_SiftString.f])
  | succ k =>
  by_cases c3 : a0_0.toList = ([111, 114] : List UInt8)
  · by_cases c4 : 0 < (l0_4.length : Int)
    · exact patchbayref4_SiftString.arm1 k ih a0_0 a0_1 a0_2 a0_3 A0_4 c0_4 l0_4 a1 r w hr0_4 hc0_4 h c3 c4
    · exact patchbayref4_SiftString.arm2 k ih a0_0 a0_1 a0_2 a0_3 A0_4 c0_4 l0_4 a1 r w hr0_4 hc0_4 h c3 c4
  · by_cases c23 : a0_0.toList = ([97, 110, 100] : List UInt8)
    · exact patchbayref4_SiftString.arm3 k ih a0_0 a0_1 a0_2 a0_3 A0_4 c0_4 l0_4 a1 r w hr0_4 hc0_4 h c3 c23
    · exact patchbayref4_SiftString.arm4 k ih a0_0 a0_1 a0_2 a0_3 A0_4 c0_4 l0_4 a1 r w hr0_4 hc0_4 h c3 c23
end Go.Proofs.YtlkllccbcfhekaaDoor.Sift
