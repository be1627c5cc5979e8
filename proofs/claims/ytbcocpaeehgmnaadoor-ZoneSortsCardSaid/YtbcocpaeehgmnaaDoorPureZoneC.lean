/- The pure law of LabelCompares. -/
import Derived.Test.YtbcocpaeehgmnaaDoorPureZoneB
namespace Go.Proofs.YtbcocpaeehgmnaaDoor.Pure
open Go.RowKit Go.Proofs.YtbcocpaeehgmnaaDoor.Zone Go.Proofs.YtbcocpaeehgmnaaDoor.Runes Go.Proofs.YtbcocpaeehgmnaaDoorW.PrintWords Go.Proofs.YtbcocpaeehgmnaaDoorW.PrintLast

theorem labels_few (L : List UInt8) : (labelsL L).1.length ≤ 8 := by
  unfold labelsL
  repeat' split
  all_goals first | (simp; done) | (simp only []; omega)

theorem rdOf_nat (l : List ByteArray) (i : Nat) (h : i < l.length) : rdOf ByteArray.empty l (i : Int) = l[i] := by
  unfold rdOf
  rw [Int.toNat_natCast, List.getD_eq_getElem?_getD, List.getElem?_eq_getElem h]
  rfl

/-! slices.Reverse -/
theorem rev_runs (o : List ByteArray) (hn : o.length ≤ 1000) : ∀ (d i k : Nat) (xs : List ByteArray), xs.length = o.length → o.length ≤ 2 * i + d → i ≤ o.length → d + 1 ≤ k →
    (∀ p, p < o.length → xs[p]? = if p < i ∨ o.length ≤ p + i then o[o.length - 1 - p]? else o[p]?) →
    slices_Reverse_string_string.l0 k xs (i : Int) ((o.length : Int) - 1 - (i : Int)) = some o.reverse := by
  intro d
  induction d with
  | zero =>
    intro i k xs hl hd hi hk hx
    obtain ⟨k, rfl⟩ : ∃ m, k = m + 1 := ⟨k - 1, by omega⟩
    rw [slices_Reverse_string_string.l0, if_neg (by omega)]
    congr 1
    apply List.ext_getElem?
    intro p
    by_cases hp : p < o.length
    · rw [hx p hp, List.getElem?_reverse hp]
      split
      · rfl
      · omega
    · rw [List.getElem?_eq_none (by omega), List.getElem?_eq_none (by rw [List.length_reverse]; omega)]
  | succ d ih =>
    intro i k xs hl hd hi hk hx
    obtain ⟨k, rfl⟩ : ∃ m, k = m + 1 := ⟨k - 1, by omega⟩
    rw [slices_Reverse_string_string.l0]
    by_cases c : (i : Int) < (o.length : Int) - 1 - (i : Int)
    · obtain ⟨j, hj⟩ : ∃ j : Nat, (o.length : Int) - 1 - (i : Int) = (j : Int) := ⟨o.length - 1 - i, by omega⟩
      have hji : j + i + 1 = o.length := by omega
      have hw : wrap64 ((i : Int) + 1) = ((i + 1 : Nat) : Int) := by unfold wrap64; omega
      have hw2 : wrap64 ((j : Int) - 1) = (o.length : Int) - 1 - ((i + 1 : Nat) : Int) := by unfold wrap64; omega
      rw [hj] at c ⊢
      have hjx : j < xs.length := by omega
      have hix : i < xs.length := by omega
      rw [if_pos c, if_pos (by omega), if_pos (by omega), if_pos (by omega), if_pos (by omega), hw, hw2, rdOf_nat xs j hjx, rdOf_nat xs i hix, Int.toNat_natCast, Int.toNat_natCast]
      have e1 : xs[j]? = o[j]? := by
        rw [hx j (by omega), if_neg (by omega)]
      have e2 : xs[i]? = o[i]? := by
        rw [hx i (by omega), if_neg (by omega)]
      rw [List.getElem?_eq_getElem hjx] at e1
      rw [List.getElem?_eq_getElem hix] at e2
      refine ih (i + 1) k _ (by simp [hl]) (by omega) (by omega) (by omega) (fun p hp => ?_)
      rw [List.getElem?_set, List.getElem?_set]
      by_cases h1 : j = p
      · subst h1
        rw [if_pos rfl, if_pos (by rw [List.length_set]; omega), if_pos (by omega), e2]
        congr 1
        omega
      · rw [if_neg h1]
        by_cases h2 : i = p
        · subst h2
          rw [if_pos rfl, if_pos (by omega), if_pos (by omega), e1]
          congr 1
          omega
        · rw [if_neg h2, hx p hp]
          by_cases h3 : p < i ∨ o.length ≤ p + i
          · rw [if_pos h3, if_pos (by omega)]
          · rw [if_neg h3, if_neg (by omega)]
    · rw [if_neg c]
      congr 1
      apply List.ext_getElem?
      intro p
      by_cases hp : p < o.length
      · rw [hx p hp, List.getElem?_reverse hp]
        split
        · rfl
        · congr 1
          omega
      · rw [List.getElem?_eq_none (by omega), List.getElem?_eq_none (by rw [List.length_reverse]; omega)]
theorem rev_at (o : List ByteArray) (hn : o.length ≤ 1000) (k : Nat) (hk : o.length + 1 ≤ k) : slices_Reverse_string_string.f k o = some o.reverse := by
  unfold slices_Reverse_string_string.f
  have hw : wrap64 ((o.length : Int) - 1) = (o.length : Int) - 1 - ((0 : Nat) : Int) := by unfold wrap64; omega
  rw [hw]
  refine rev_runs o hn o.length 0 k o rfl (by omega) (by omega) hk (fun p hp => ?_)
  rw [if_neg (by omega)]

/-! the order -/
def cmpB (a b : ByteArray) : Int := if Op.bytesLess a.toList b.toList = true then -1 else if Op.bytesLess b.toList a.toList = true then 1 else 0
def cmpL : List ByteArray → List ByteArray → Int
  | [], [] => 0
  | [], _ :: _ => -1
  | _ :: _, [] => 1
  | a :: x, b :: y => if cmpB a b = 0 then cmpL x y else cmpB a b
theorem cmp_at (a b : ByteArray) : cmp_Compare_string.f a b = some (cmpB a b) := by
  have h : ∀ a : ByteArray, cmp_isNaN_string.f a = some false := fun a => by unfold cmp_isNaN_string.f; simp
  unfold cmp_Compare_string.f cmpB
  rw [h, h, Option.bind_some, Option.bind_some, if_neg Bool.false_ne_true, if_neg Bool.false_ne_true]
  split
  · rfl
  · split <;> rfl

theorem compare_runs (x y : List ByteArray) (hx : x.length ≤ 1000) (hy : y.length ≤ 1000) : ∀ (d i k : Nat), i + d = x.length → i ≤ y.length → d + 1 ≤ k →
    slices_Compare_string_string.l0 k x y x (x.length : Int) (i : Int) = some (cmpL (x.drop i) (y.drop i)) := by
  intro d
  induction d with
  | zero =>
    intro i k hi hiy hk
    obtain ⟨k, rfl⟩ : ∃ m, k = m + 1 := ⟨k - 1, by omega⟩
    rw [slices_Compare_string_string.l0, if_neg (by omega), List.drop_eq_nil_of_le (by omega)]
    by_cases c : i < y.length
    · rw [if_pos (by omega), List.drop_eq_getElem_cons c]
      rfl
    · rw [if_neg (by omega), List.drop_eq_nil_of_le (by omega)]
      rfl
  | succ d ih =>
    intro i k hi hiy hk
    obtain ⟨k, rfl⟩ : ∃ m, k = m + 1 := ⟨k - 1, by omega⟩
    have hlt : i < x.length := by omega
    have hw : wrap64 ((i : Int) + 1) = ((i + 1 : Nat) : Int) := by unfold wrap64; omega
    rw [slices_Compare_string_string.l0, if_pos (by omega), if_pos (by omega), if_pos (by omega), List.drop_eq_getElem_cons hlt]
    by_cases c : i < y.length
    · rw [if_neg (by omega), if_pos (by omega), rdOf_nat x i hlt, rdOf_nat y i c, cmp_at, Option.bind_some, hw, List.drop_eq_getElem_cons c, cmpL]
      by_cases c2 : cmpB x[i] y[i] = 0
      · rw [if_pos c2, if_pos c2]
        exact ih (i + 1) k (by omega) (by omega) (by omega)
      · rw [if_neg c2, if_neg c2]
    · have ey : y.drop i = [] := List.drop_eq_nil_of_le (by omega)
      rw [if_pos (by omega), ey]
      rfl

theorem order_runs (x y : List ByteArray) (hx : x.length ≤ 1000) (hy : y.length ≤ 1000) : ∀ (d i k : Nat), i + d = x.length → i ≤ y.length → 2 * d + 2 ≤ k →
    patchbayref4_NameOrder.l0 k x y (i : Int) = some (cmpL (x.reverse.drop i) (y.reverse.drop i)) := by
  intro d
  induction d with
  | zero =>
    intro i k hi hiy hk
    obtain ⟨k, rfl⟩ : ∃ m, k = m + 1 + 1 := ⟨k - 2, by omega⟩
    rw [patchbayref4_NameOrder.l0, if_pos (by omega), patchbayref4_NameOrder.j1, List.drop_eq_nil_of_le (by rw [List.length_reverse]; omega)]
    by_cases c : i = y.length
    · have e : ((i : Int) == (y.length : Int)) = true := by simp [c]
      rw [e, if_pos rfl, List.drop_eq_nil_of_le (by rw [List.length_reverse]; omega)]
      rfl
    · have e : ((i : Int) == (y.length : Int)) = false := by simp; omega
      rw [e, if_neg Bool.false_ne_true, if_pos (by omega), List.drop_eq_getElem_cons (by rw [List.length_reverse]; omega)]
      rfl
  | succ d ih =>
    intro i k hi hiy hk
    obtain ⟨k, rfl⟩ : ∃ m, k = m + 1 + 1 := ⟨k - 2, by omega⟩
    have hlt : i < x.reverse.length := by rw [List.length_reverse]; omega
    have hw : wrap64 ((i : Int) + 1) = ((i + 1 : Nat) : Int) := by unfold wrap64; omega
    rw [patchbayref4_NameOrder.l0, if_neg (by omega), patchbayref4_NameOrder.j1, if_neg Bool.false_ne_true, if_neg (by omega), List.drop_eq_getElem_cons hlt]
    by_cases c : i = y.length
    · have ey : y.reverse.drop i = [] := List.drop_eq_nil_of_le (by rw [List.length_reverse]; omega)
      rw [if_pos (by omega), ey]
      rfl
    · have hlt2 : i < y.reverse.length := by rw [List.length_reverse]; omega
      have a1 : wrap64 (wrap64 ((x.length : Int) - 1) - (i : Int)) = ((x.length - 1 - i : Nat) : Int) := by
        rw [show wrap64 ((x.length : Int) - 1) = (x.length : Int) - 1 by unfold wrap64; omega]
        unfold wrap64; omega
      have a2 : wrap64 (wrap64 ((y.length : Int) - 1) - (i : Int)) = ((y.length - 1 - i : Nat) : Int) := by
        rw [show wrap64 ((y.length : Int) - 1) = (y.length : Int) - 1 by unfold wrap64; omega]
        unfold wrap64; omega
      rw [if_neg (by omega), a1, a2, if_pos (by omega), if_pos (by omega), if_pos (by omega), if_pos (by omega), rdOf_nat x _ (by omega), rdOf_nat y _ (by omega), hw, List.drop_eq_getElem_cons hlt2, cmpL, List.getElem_reverse, List.getElem_reverse]
      have hn := ih (i + 1) k (by omega) (by omega) (by omega)
      unfold cmpB
      by_cases c1 : Op.bytesLess (x[x.length - 1 - i]'(by omega)).toList (y[y.length - 1 - i]'(by omega)).toList = true
      · rw [if_pos c1, if_pos c1, if_neg (by decide)]
      · rw [if_neg c1, if_neg c1]
        by_cases c2 : Op.bytesLess (y[y.length - 1 - i]'(by omega)).toList (x[x.length - 1 - i]'(by omega)).toList = true
        · rw [if_pos c2, if_pos c2, if_neg (by decide)]
        · rw [if_neg c2, if_neg c2, if_pos rfl]
          exact hn

theorem compare_at (A B : List UInt8) (k : Nat) (hk : 200 ≤ k) : label_Compare.f k (mk A) (mk B) = some (if (labelsL A).2 = 0 then (if (labelsL B).2 = 0 then (cmpL ((labelsL A).1.map mk).reverse ((labelsL B).1.map mk).reverse, 0) else (0, (labelsL B).2)) else (0, (labelsL A).2)) := by
  unfold label_Compare.f
  have h1 := labels_few A
  have h2 := labels_few B
  rw [labels_at A k hk, Option.bind_some, labels_at B k hk, Option.bind_some]
  generalize (labelsL A).1 = l at h1 ⊢
  generalize (labelsL B).1 = m at h2 ⊢
  generalize (labelsL A).2 = e
  generalize (labelsL B).2 = f
  show (if e = 0 then _ else _) = _
  by_cases c : e = 0
  · rw [if_pos c, if_pos c]
    show (if f = 0 then _ else _) = _
    by_cases c2 : f = 0
    · have hl : (l.map mk).length ≤ 8 := by rw [List.length_map]; exact h1
      have hm : (m.map mk).length ≤ 8 := by rw [List.length_map]; exact h2
      generalize l.map mk = x at hl ⊢
      generalize m.map mk = y at hm ⊢
      rw [if_pos c2, if_pos c2, rev_at x (by omega) k (by omega), Option.bind_some, rev_at y (by omega) k (by omega), Option.bind_some]
      unfold slices_Compare_string_string.f
      have h := compare_runs x.reverse y.reverse (by rw [List.length_reverse]; omega) (by rw [List.length_reverse]; omega) x.reverse.length 0 k (by omega) (by omega) (by rw [List.length_reverse]; omega)
      rw [List.drop_zero, List.drop_zero] at h
      rw [show ((0 : Nat) : Int) = 0 from rfl] at h
      rw [h, Option.bind_some]
    · rw [if_neg c2, if_neg c2]
  · rw [if_neg c, if_neg c]

end Go.Proofs.YtbcocpaeehgmnaaDoor.Pure
