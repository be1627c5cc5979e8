/- What sift.printed answers. -/
import Derived.Test.YtlkllccbcfhekaaDoorSiftx4
import Derived.Test.YtlkllccbcfhekaaDoorPureSiftQ
namespace Go.Proofs.YtlkllccbcfhekaaDoor.Sift
open Go.RowKit Go.Proofs.YtlkllccbcfhekaaDoorW.PrintWords
namespace Pure
set_option maxRecDepth 100000

theorem printed_up {k k' : Nat} (hk : k ≤ k') {a b : ByteArray} {x y : Int} {l : List S24} {m : Int} {r : ByteArray} (h : sift_printed.f k a b x y l m = some r) : sift_printed.f k' a b x y l m = some r :=
  up (f := fun k => sift_printed.f k a b x y l m) (fun k => sift_printed.mono _ _ _ _ _ _ k) hk h
theorem prefix_up {k k' : Nat} (hk : k ≤ k') {x y : Int} {r : ByteArray × Int} (h : addr_PrintPrefix.f k x y = some r) : addr_PrintPrefix.f k' x y = some r :=
  up (f := fun k => addr_PrintPrefix.f k x y) (fun k => addr_PrintPrefix.mono _ _ k) hk h
theorem L32 : (⟨#[32]⟩ : ByteArray).size = 1 := rfl
theorem L40 : (⟨#[40]⟩ : ByteArray).size = 1 := rfl
theorem toList_append (a b : ByteArray) : (a ++ b).toList = a.toList ++ b.toList := by simp [ByteArray.toList_eq]
theorem paren {r a : Int} {t : ByteArray} (hs : t.size ≤ 68719476736 * 500) :
    (if r < a then (if 1 + t.size ≤ 9223372036854775807 then (if ((⟨#[40]⟩ : ByteArray) ++ t).size + 1 ≤ 9223372036854775807 then (some (((⟨#[40]⟩ : ByteArray) ++ t) ++ (⟨#[41]⟩ : ByteArray))) else (none)) else (none)) else (some t)) = some (par (decide (r < a)) t) := by
  unfold par
  by_cases h : r < a
  · rw [if_pos h, if_pos (by omega), if_pos (by simp only [ByteArray.size_append, L40]; omega), if_pos (decide_eq_true h)]
  · rw [if_neg h, if_neg (by simpa using h)]
theorem two_is (k : Nat) (a : Int) (op f : ByteArray) (v b r : Int) (l : List S24) (t0 t1 : ByteArray) (hl : l.length = 2) (hr : sift_rank.f op f v b l = some r) (hr0 : 0 ≤ r) (hr1 : r ≤ 1)
    (h0 : sift_printed.f k (rd_T24 l 0).f0 (rd_T24 l 0).f1 (rd_T24 l 0).f2 (rd_T24 l 0).f3 (rd_T24 l 0).f4 r = some t0)
    (h1 : sift_printed.f k (rd_T24 l 1).f0 (rd_T24 l 1).f1 (rd_T24 l 1).f2 (rd_T24 l 1).f3 (rd_T24 l 1).f4 (r + 1) = some t1)
    (hs : t0.size + t1.size + op.size ≤ 68719476736 * 400) :
    sift_printed.j0 (k + 1) a op true op f v b l = some (par (decide (r < a)) ((((t0 ++ (⟨#[32]⟩ : ByteArray)) ++ op) ++ (⟨#[32]⟩ : ByteArray)) ++ t1)) := by
  have hw : wrap64 (r + 1) = r + 1 := w64 (by omega) (by omega)
  rw [sift_printed.j0, if_pos rfl, if_pos (by omega), hr, Option.bind_some, h0, Option.bind_some, if_pos (by omega), if_pos (by simp only [ByteArray.size_append, L32]; omega), if_pos (by simp only [ByteArray.size_append, L32]; omega), if_pos (by omega),
    Option.bind_some, hw, h1, Option.bind_some, if_pos (by simp only [ByteArray.size_append, L32]; omega), Option.bind_some]
  exact paren (by simp only [ByteArray.size_append, L32]; omega)
theorem printed_is : ∀ n s, frm n s = true → cnt n s ≤ 298 + 2 → ∃ k, ∀ a, a ≤ 2 → sift_printed.f k s.f0 s.f1 s.f2 s.f3 s.f4 a = some (txt n s a)
  | 0, _, h, _ => by cases h
  | n + 1, s, hf, hc => by
    obtain ⟨hs, hk⟩ := kids_of hf
    have hsz : ∀ a, (txt (n + 1) s a).size ≤ 68719476736 * 300 := fun a => Nat.le_trans (txt_size (n + 1) s a hf) (Nat.mul_le_mul_left _ hc)
    unfold cnt at hc
    cases hs with
    | or h hl =>
      rw [sum2 n hl] at hc
      obtain ⟨k0, e0⟩ := printed_is n (rd_T24 s.f4 0) (hk _ (two_at hl).1) (by omega)
      obtain ⟨k1, e1⟩ := printed_is n (rd_T24 s.f4 1) (hk _ (two_at hl).2.1) (by omega)
      have z0 := txt_size n (rd_T24 s.f4 0) 0 (hk _ (two_at hl).1)
      have z1 := txt_size n (rd_T24 s.f4 1) 1 (hk _ (two_at hl).2.1)
      have s0 : s.f0.size = 2 := by rw [← size_of_toList, h]; rfl
      refine ⟨max k0 k1 + 2, fun a ha => ?_⟩
      rw [sift_printed.f, if_neg (by rw [h]; decide), beq_iff_eq.2 h,
        two_is (max k0 k1) a s.f0 s.f1 s.f2 s.f3 0 s.f4 _ _ hl (by unfold sift_rank.f; rw [if_pos h]) (by omega) (by omega) (printed_up (Nat.le_max_left k0 k1) (e0 0 (by omega))) (printed_up (Nat.le_max_right k0 k1) (e1 (0 + 1) (by omega))) (by show (txt n (rd_T24 s.f4 0) 0).size + (txt n (rd_T24 s.f4 1) 1).size + s.f0.size ≤ _; omega)]
      rw [txt, if_pos h]
      congr 2
      apply ba_ext
      simp only [toList_append, h]
      simp [ByteArray.toList_eq]
    | and h hl =>
      rw [sum2 n hl] at hc
      obtain ⟨k0, e0⟩ := printed_is n (rd_T24 s.f4 0) (hk _ (two_at hl).1) (by omega)
      obtain ⟨k1, e1⟩ := printed_is n (rd_T24 s.f4 1) (hk _ (two_at hl).2.1) (by omega)
      have z0 := txt_size n (rd_T24 s.f4 0) 1 (hk _ (two_at hl).1)
      have z1 := txt_size n (rd_T24 s.f4 1) 2 (hk _ (two_at hl).2.1)
      have s0 : s.f0.size = 3 := by rw [← size_of_toList, h]; rfl
      refine ⟨max k0 k1 + 2, fun a ha => ?_⟩
      rw [sift_printed.f, if_pos h, beq_iff_eq.2 h,
        two_is (max k0 k1) a s.f0 s.f1 s.f2 s.f3 1 s.f4 _ _ hl (by unfold sift_rank.f; rw [if_neg (by rw [h]; decide), if_pos h]) (by omega) (by omega) (printed_up (Nat.le_max_left k0 k1) (e0 1 (by omega))) (printed_up (Nat.le_max_right k0 k1) (e1 (1 + 1) (by omega))) (by show (txt n (rd_T24 s.f4 0) 1).size + (txt n (rd_T24 s.f4 1) 2).size + s.f0.size ≤ _; omega)]
      rw [txt, if_neg (by rw [h]; decide), if_pos h]
      congr 2
      apply ba_ext
      simp only [toList_append, h]
      simp [ByteArray.toList_eq]
    | not h hl =>
      rw [sum1 n hl] at hc
      obtain ⟨k0, e0⟩ := printed_is n (rd_T24 s.f4 0) (hk _ (one_at hl).1) (by omega)
      have z0 := txt_size n (rd_T24 s.f4 0) 2 (hk _ (one_at hl).1)
      refine ⟨k0 + 2, fun a ha => ?_⟩
      rw [sift_printed.f, if_neg (by rw [h]; decide), show (s.f0.toList == ([111, 114] : List UInt8)) = false by rw [h]; decide, sift_printed.j0, if_neg (by decide), if_pos h, if_pos (by omega), e0 2 (by omega), Option.bind_some, if_pos (by omega)]
      unfold sift_rank.f
      rw [if_neg (by rw [h]; decide), if_neg (by rw [h]; decide), Option.bind_some, if_neg (by omega)]
      rw [txt, if_neg (by rw [h]; decide), if_neg (by rw [h]; decide), if_pos h]
    | net h hf h0 h1 hn =>
      have s1 := adr_size s.f2 h0 h1
      have s2 := num_size s.f3 (net_b hn).1 (by have := (net_b hn).2; omega)
      have L4 : (⟨#[32, 105, 110, 32]⟩ : ByteArray).size = 4 := rfl
      have L5 : (⟨#[47]⟩ : ByteArray).size = 1 := rfl
      refine ⟨7, fun a ha => ?_⟩
      rw [sift_printed.f, if_neg (by rw [h]; decide), show (s.f0.toList == ([111, 114] : List UInt8)) = false by rw [h]; decide, sift_printed.j0, if_neg (by decide), if_neg (by rw [h]; decide), if_pos h, prefix_is s.f2 s.f3 h0 h1 hn, Option.bind_some, if_pos (by omega),
        if_pos (by simp only [ByteArray.size_append, L4, L5]; omega)]
      unfold sift_rank.f
      rw [if_neg (by rw [h]; decide), if_neg (by rw [h]; decide), Option.bind_some, if_neg (by omega)]
      rw [txt, if_neg (by rw [h]; decide), if_neg (by rw [h]; decide), if_neg (by rw [h]; decide), if_pos h]
      congr 1
      apply ba_ext
      simp only [toList_append, List.append_assoc]
    | cmp c h hf h0 h1 =>
      have s1 := num_size s.f2 h0 h1
      have s0 : s.f0.size = 1 := by rw [← size_of_toList, h]; rfl
      refine ⟨2, fun a ha => ?_⟩
      rw [sift_printed.f, if_neg (by rw [h]; simp), show (s.f0.toList == ([111, 114] : List UInt8)) = false by rw [h]; simp, sift_printed.j0, if_neg (by decide), if_neg (by rw [h]; simp), if_neg (by rw [h]; simp), if_pos (by omega), if_pos (by simp only [ByteArray.size_append, L32]; omega), if_pos (by simp only [ByteArray.size_append, L32]; omega),
        itoa_is s.f2 h0 h1, Option.bind_some, if_pos (by simp only [ByteArray.size_append, L32]; omega)]
      unfold sift_rank.f
      rw [if_neg (by rw [h]; simp), if_neg (by rw [h]; simp), Option.bind_some, if_neg (by omega)]
      rw [txt, if_neg (by rw [h]; simp), if_neg (by rw [h]; simp), if_neg (by rw [h]; simp), if_neg (by rw [h]; simp)]
end Pure
end Go.Proofs.YtlkllccbcfhekaaDoor.Sift
