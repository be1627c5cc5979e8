/- label.Labels and its reference compute the same plain function of a name's bytes. -/
import Derived.Test.YtbcocpaeehgmnaaDoorPureLpA
namespace Go.Proofs.YtbcocpaeehgmnaaDoor.Pure
open Go.RowKit Go.Proofs.YtbcocpaeehgmnaaDoor.Lp Go.Proofs.YtbcocpaeehgmnaaDoor.Runes Go.Proofs.YtbcocpaeehgmnaaDoorW.PrintWords Go.Proofs.YtbcocpaeehgmnaaDoorW.PrintLast

theorem label_hi (r : Nat) (h : 128 ≤ r) : labelBad r = true := by unfold labelBad; simp; omega
theorem any_good (L : List UInt8) : strAny labelBad (mk L) = !(L.all good) := by
  have h := strAny_iff labelBad label_hi (mk L)
  cases ha : strAny labelBad (mk L) <;> cases hb : L.all good <;> try rfl
  · exfalso
    rw [ha] at h
    have : ¬ (∀ x ∈ L, good x = true) := fun hh => by rw [List.all_eq_true.2 hh] at hb; cases hb
    apply this
    intro x hx
    obtain ⟨i, hi, rfl⟩ := List.getElem_of_mem hx
    cases hc : good L[i] with
    | true => rfl
    | false =>
      unfold good at hc
      have hc' : labelBad L[i].toNat = true := by cases he : labelBad L[i].toNat <;> simp_all
      exact absurd (h.2 ⟨i, by rw [mk_size]; exact hi, hc'⟩) (by simp)
  · exfalso
    rw [ha] at h
    obtain ⟨i, hi, hc⟩ := h.1 rfl
    rw [mk_size] at hi
    have hc' : labelBad L[i].toNat = true := hc
    have := List.all_eq_true.1 hb L[i] (List.getElem_mem hi)
    unfold good at this
    rw [hc'] at this
    cases this

def cs : List UInt8 := [97, 98, 99, 100, 101, 102, 103, 104, 105, 106, 107, 108, 109, 110, 111, 112, 113, 114, 115, 116, 117, 118, 119, 120, 121, 122, 48, 49, 50, 51, 52, 53, 54, 55, 56, 57, 45, 95]
theorem good_cs (b : UInt8) (h : good b = true) : cs.contains b = true := by
  have key : ∀ n : Fin 256, good (UInt8.ofNat n.val) = true → cs.contains (UInt8.ofNat n.val) = true := by decide +kernel
  have e : UInt8.ofNat b.toNat = b := UInt8.ofNat_toNat
  have := key ⟨b.toNat, UInt8.toNat_lt b⟩
  simp only [e] at this
  exact this h
theorem dropWhile_whole {p : UInt8 → Bool} : ∀ (l : List UInt8), (∀ x ∈ l, p x = true) → l.dropWhile p = []
  | [], _ => rfl
  | a :: l, h => by rw [List.dropWhile_cons, if_pos (h a List.mem_cons_self)]; exact dropWhile_whole l (fun x hx => h x (List.mem_cons_of_mem _ hx))
theorem trim_good (L : List UInt8) (h : L.all good = true) : Lib.trimS L cs = [] := by
  have h2 : Lib.trimRightS L cs = [] := by
    unfold Lib.trimRightS
    rw [dropWhile_whole _ (fun x hx => good_cs x (List.all_eq_true.1 h x (List.mem_reverse.1 hx)))]
    rfl
  unfold Lib.trimS
  rw [h2]
  rfl

theorem u8_ne (b : UInt8) (hx : b ≠ 45) : (b.toNat : Int) ≠ 45 := fun h => hx (by
  have h2 : b.toNat = 45 := by omega
  exact UInt8.toNat_inj.1 (h2.trans rfl))

theorem isLabel_at (L : List UInt8) (hL : L.length ≤ 1000) (k : Nat) (hk : 1 ≤ k) : label_isLabel.f k (mk L) = some (decide (L = [42]) || goodL L) := by
  obtain ⟨k, rfl⟩ : ∃ m, k = m + 1 := ⟨k - 1, by omega⟩
  unfold label_isLabel.f
  rw [mk_toList, mk_size]
  by_cases h0 : L = [42]
  · rw [if_pos h0, decide_eq_true h0, Bool.true_or]
  rw [if_neg h0, decide_eq_false h0, Bool.false_or]
  by_cases h1 : L.length < 1
  · rw [if_pos (by omega), label_isLabel.j0, if_pos rfl]
    congr 1
    unfold goodL
    rw [decide_eq_false (by omega)]
    rfl
  rw [if_neg (by omega)]
  by_cases h2 : L.length > 20
  · rw [if_pos (by omega), label_isLabel.j0, if_pos rfl]
    congr 1
    unfold goodL
    rw [decide_eq_false (show ¬ L.length ≤ 20 by omega)]
    simp
  rw [if_neg (by omega), if_pos (by omega)]
  have hb := bt_mk L 0 (by omega)
  simp only [Int.natCast_zero] at hb
  rw [hb]
  have eg : goodL L = ((L.head? != some 45) && L.all good) := by
    unfold goodL
    rw [decide_eq_true (show 0 < L.length by omega), decide_eq_true (show L.length ≤ 20 by omega)]
    simp
  have eh : (L.head? != some 45) = !((L[0].toNat : Int) == 45) := by
    cases L with
    | nil => simp at h1
    | cons b t =>
      have e : ((b :: t).head? != some (45 : UInt8)) = (b != 45) := rfl
      rw [e]
      by_cases hx : b = 45
      · subst hx; rfl
      · show (!(b == 45)) = !((b.toNat : Int) == 45)
        rw [beq_eq_false_iff_ne.2 hx, beq_eq_false_iff_ne.2 (u8_ne b hx)]
  rw [eg, eh]
  cases ((L[0].toNat : Int) == 45)
  · rw [label_isLabel.j0, if_neg Bool.false_ne_true]
    have eT : strings_Trim.f (mk L) (⟨#[97, 98, 99, 100, 101, 102, 103, 104, 105, 106, 107, 108, 109, 110, 111, 112, 113, 114, 115, 116, 117, 118, 119, 120, 121, 122, 48, 49, 50, 51, 52, 53, 54, 55, 56, 57, 45, 95]⟩ : ByteArray) = some (mk (Lib.trimS L cs)) := by
      unfold strings_Trim.f
      rw [if_pos ⟨by rw [mk_size]; omega, by decide, by decide⟩]
      rfl
    rw [eT, Option.bind_some, mk_toList]
    unfold label_isLabel_1.f
    rw [any_good, Option.bind_some, Bool.not_not]
    by_cases hg : L.all good = true
    · rw [if_pos (trim_good L hg), hg]
      rfl
    · have hg' : L.all good = false := by simpa using hg
      rw [hg']
      split <;> rfl
  · rw [label_isLabel.j0, if_pos rfl]
    rfl

theorem last_cases (L : List UInt8) : L = [] ∨ ∃ N x, L = N ++ [x] := by
  cases h : L.getLast? with
  | none => exact .inl (List.getLast?_eq_none_iff.1 h)
  | some x => exact .inr ((List.getLast?_eq_some_iff.1 h).imp fun N hN => ⟨x, hN⟩)

theorem w64s (a b : Int) (h0 : 0 ≤ a - b) (h1 : a - b < 9223372036854775808) : wrap64 (a - b) = a - b := by unfold wrap64; omega

theorem suffix_at (L : List UInt8) (hL : L.length ≤ 1000) : strings_HasSuffix.f (mk L) (⟨#[46]⟩ : ByteArray) = some (L.getLast? == some 46) := by
  unfold strings_HasSuffix.f stringslite_HasSuffix.f
  have h1 : (⟨#[46]⟩ : ByteArray).size = 1 := rfl
  have h2 : (⟨#[46]⟩ : ByteArray).toList = [46] := mk_toList [46]
  rw [h1, h2, mk_size]
  rcases last_cases L with rfl | ⟨N, x, rfl⟩
  · rfl
  · have hl : (N ++ [x]).length = N.length + 1 := by simp
    have hw : wrap64 (((N.length + 1 : Nat) : Int) - ((1 : Nat) : Int)) = (N.length : Int) := by unfold wrap64; omega
    rw [hl, if_pos (by omega), hw, if_pos (by omega), if_pos (by omega), Int.toNat_natCast, mk_extract, mk_toList, List.drop_left, Option.bind_some, List.getLast?_concat]
    rw [show N.length + 1 - N.length = 1 by omega]
    have e : ([x].take 1 == [46]) = (some x == some (46 : UInt8)) := by simp
    rw [e]

theorem trimSuffix_at (N : List UInt8) (hN : N.length ≤ 900) : strings_TrimSuffix.f (mk (N ++ [46])) (⟨#[46]⟩ : ByteArray) = some (mk N) := by
  have hs := suffix_at (N ++ [46]) (by simp; omega)
  unfold strings_HasSuffix.f at hs
  unfold strings_TrimSuffix.f stringslite_TrimSuffix.f
  obtain ⟨b, hb⟩ : ∃ b, stringslite_HasSuffix.f (mk (N ++ [46])) (⟨#[46]⟩ : ByteArray) = some b := by
    cases h : stringslite_HasSuffix.f (mk (N ++ [46])) (⟨#[46]⟩ : ByteArray) with
    | none => rw [h] at hs; cases hs
    | some b => exact ⟨b, rfl⟩
  rw [hb, Option.bind_some, List.getLast?_concat] at hs
  obtain rfl : b = true := (Option.some.inj hs).trans (by simp)
  have h1 : (⟨#[46]⟩ : ByteArray).size = 1 := rfl
  have hl : (N ++ [(46 : UInt8)]).length = N.length + 1 := by simp
  have hw : wrap64 (((N.length + 1 : Nat) : Int) - ((1 : Nat) : Int)) = (N.length : Int) := by unfold wrap64; omega
  rw [hb, Option.bind_some, if_pos rfl, h1, mk_size, hl, hw, if_pos (by omega), if_pos (by omega), Option.bind_some, Int.toNat_natCast, mk_extract]
  simp

theorem split_dot (k : Nat) (hk : 1 ≤ k) : label_split.f k (mk [46]) = some [] := by
  obtain ⟨k, rfl⟩ : ∃ m, k = m + 1 := ⟨k - 1, by omega⟩
  unfold label_split.f
  rw [mk_toList, if_pos rfl, label_split.j0, if_pos rfl]
theorem split_name (N : List UInt8) (hN : N.length ≤ 900) (h0 : N ≠ []) (k : Nat) (hk : 1 ≤ k) : label_split.f k (mk (N ++ [46])) = some ((cutL N).map mk) := by
  obtain ⟨k, rfl⟩ : ∃ m, k = m + 1 := ⟨k - 1, by omega⟩
  unfold label_split.f
  have e1 : ¬ N ++ [46] = [46] := fun h => h0 (by simpa using h)
  have e2 : (N ++ [(46 : UInt8)] == ([] : List UInt8)) = false := by simp
  rw [mk_toList, if_neg e1, e2, label_split.j0, if_neg Bool.false_ne_true, trimSuffix_at N hN, Option.bind_some, split_at N (by omega), Option.bind_some]

/-! the list of labels -/
def okAt (i : Nat) (s : List UInt8) : Bool := goodL s || (decide (s = [42]) && decide (i = 0))
def okAll : Nat → List (List UInt8) → Bool
  | _, [] => true
  | i, s :: t => okAt i s && okAll (i + 1) t

theorem rd_at (l : List (List UInt8)) (i : Nat) (h : i < l.length) : rdOf ByteArray.empty (l.map mk) (i : Int) = mk l[i] := by
  unfold rdOf
  rw [Int.toNat_natCast, List.getD_eq_getElem?_getD, List.getElem?_map, List.getElem?_eq_getElem h]
  rfl

theorem star_bad : goodL [42] = false := by decide +kernel

theorem check_runs (l : List (List UInt8)) (hl : l.length ≤ 1000) (hs : ∀ s ∈ l, s.length ≤ 100) : ∀ (d i k : Nat), i + d = l.length → d + 2 ≤ k →
    label_Check.l0 k (l.map mk) (l.map mk) (((l.map mk).length : Nat) : Int) (i : Int) = some (if okAll i (l.drop i) = true then (if l.length > 8 then 2 else 0) else 3) := by
  intro d
  induction d with
  | zero =>
    intro i k hi hk
    obtain ⟨k, rfl⟩ : ∃ m, k = m + 1 := ⟨k - 1, by omega⟩
    rw [label_Check.l0, List.length_map, if_neg (by omega), List.drop_eq_nil_of_le (by omega), okAll, if_pos rfl]
    by_cases c : l.length > 8
    · rw [if_pos c, if_pos (by omega)]
    · rw [if_neg c, if_neg (by omega)]
  | succ d ih =>
    intro i k hi hk
    obtain ⟨k, rfl⟩ : ∃ m, k = m + 1 := ⟨k - 1, by omega⟩
    have hlt : i < l.length := by omega
    have hw : wrap64 ((i : Int) + 1) = ((i + 1 : Nat) : Int) := by unfold wrap64; omega
    have hsz := hs _ (List.getElem_mem hlt)
    have hn := ih (i + 1) k (by omega) (by omega)
    rw [label_Check.l0, if_pos (by rw [List.length_map]; omega), if_pos (by omega), if_pos (by rw [List.length_map]; omega), rd_at l i hlt, isLabel_at _ (by omega) k (by omega), Option.bind_some, mk_toList, hw, hn]
    rw [List.drop_eq_getElem_cons hlt, okAll]
    by_cases c1 : l[i] = [42]
    · rw [decide_eq_true c1, Bool.true_or, if_pos rfl, if_pos c1]
      have eg : goodL l[i] = false := by rw [c1]; exact star_bad
      unfold okAt
      rw [eg, decide_eq_true c1, Bool.false_or, Bool.true_and]
      by_cases c2 : i = 0
      · rw [if_neg (by omega), decide_eq_true c2, Bool.true_and]
      · rw [if_pos (by omega), decide_eq_false c2]
        simp
    · unfold okAt
      rw [decide_eq_false c1, Bool.false_or, Bool.false_and, Bool.or_false]
      cases hg : goodL l[i]
      · simp
      · rw [if_pos rfl, if_neg c1, Bool.true_and]

theorem ref_runs (l : List (List UInt8)) (hl : l.length ≤ 1000) (hs : ∀ s ∈ l, s.length ≤ 100) : ∀ (d i k : Nat), i + d = l.length → d + 102 ≤ k →
    patchbayref4_LabelsOf.l0 k (l.map mk) (l.map mk) (((l.map mk).length : Nat) : Int) (i : Int) = some (if okAll i (l.drop i) = true then (if l.length > 8 then ([], 2) else (l.map mk, 0)) else ([], 3)) := by
  intro d
  induction d with
  | zero =>
    intro i k hi hk
    obtain ⟨k, rfl⟩ : ∃ m, k = m + 1 := ⟨k - 1, by omega⟩
    rw [patchbayref4_LabelsOf.l0, List.length_map, if_neg (by omega), List.drop_eq_nil_of_le (by omega), okAll, if_pos rfl]
    by_cases c : l.length > 8
    · rw [if_pos c, if_pos (by omega)]
    · rw [if_neg c, if_neg (by omega)]
  | succ d ih =>
    intro i k hi hk
    obtain ⟨k, rfl⟩ : ∃ m, k = m + 1 := ⟨k - 1, by omega⟩
    have hlt : i < l.length := by omega
    have hw : wrap64 ((i : Int) + 1) = ((i + 1 : Nat) : Int) := by unfold wrap64; omega
    have hsz := hs _ (List.getElem_mem hlt)
    have hn := ih (i + 1) k (by omega) (by omega)
    rw [patchbayref4_LabelsOf.l0, if_pos (by rw [List.length_map]; omega), if_pos (by omega), if_pos (by rw [List.length_map]; omega), rd_at l i hlt, good_at _ (by omega) k (by omega), Option.bind_some, mk_toList, hw, hn]
    rw [List.drop_eq_getElem_cons hlt, okAll]
    unfold okAt
    cases hg : goodL l[i]
    · rw [if_neg Bool.false_ne_true]
      by_cases c1 : l[i] = [42]
      · rw [if_pos c1, decide_eq_true c1, Bool.false_or, Bool.true_and]
        by_cases c2 : i = 0
        · rw [if_pos (by omega), decide_eq_true c2, Bool.true_and]
        · rw [if_neg (by omega), decide_eq_false c2]
          simp
      · rw [if_neg c1, decide_eq_false c1]
        simp
    · rw [if_pos rfl, Bool.true_or, Bool.true_and]

/-- The labels of a name, or the error. -/
def labelsL (L : List UInt8) : List (List UInt8) × Int :=
  if L.length > 80 then ([], 2) else if L = [46] then ([], 0) else if (L.getLast? == some 46) = true then
    (if okAll 0 (cutL L.dropLast) = true then (if (cutL L.dropLast).length > 8 then ([], 2) else (cutL L.dropLast, 0)) else ([], 3)) else ([], 3)

theorem check_at (L : List UInt8) (k : Nat) (hk : 200 ≤ k) : label_Check.f k (mk L) = some (labelsL L).2 := by
  unfold label_Check.f labelsL
  rw [mk_size, mk_toList]
  by_cases c1 : L.length > 80
  · rw [if_pos c1, if_pos (by omega)]
  rw [if_neg c1, if_neg (by omega)]
  by_cases c2 : L = [46]
  · rw [if_pos c2, if_pos c2]
  rw [if_neg c2, if_neg c2, suffix_at L (by omega), Option.bind_some]
  cases c3 : (L.getLast? == some 46)
  · rfl
  · rw [if_pos rfl, if_pos rfl]
    obtain ⟨N, hN⟩ := List.getLast?_eq_some_iff.1 (eq_of_beq c3)
    subst hN
    have h0 : N ≠ [] := fun h => c2 (by rw [h]; rfl)
    have hl : N.length ≤ 79 := by simp at c1; omega
    have hc := cutL_len N
    have h := check_runs (cutL N) (by omega) (fun s hs => by have := cutL_piece N s hs; omega) (cutL N).length 0 k (by omega) (by omega)
    rw [split_name N (by omega) h0 k (by omega), Option.bind_some, List.dropLast_concat]
    rw [List.drop_zero] at h
    refine h.trans ?_
    split
    · split <;> rfl
    · rfl

theorem labels_at (L : List UInt8) (k : Nat) (hk : 200 ≤ k) : label_Labels.f k (mk L) = some ((labelsL L).1.map mk, (labelsL L).2) := by
  unfold label_Labels.f
  rw [check_at L k hk, Option.bind_some]
  unfold labelsL
  by_cases c1 : L.length > 80
  · rw [if_pos c1]
    rfl
  rw [if_neg c1]
  by_cases c2 : L = [46]
  · rw [if_pos c2, c2]
    show (if (0 : Int) = 0 then _ else _) = _
    rw [if_pos rfl, split_dot k (by omega)]
    rfl
  rw [if_neg c2]
  cases c3 : (L.getLast? == some 46)
  · rfl
  · rw [if_pos rfl]
    obtain ⟨N, hN⟩ := List.getLast?_eq_some_iff.1 (eq_of_beq c3)
    subst hN
    have h0 : N ≠ [] := fun h => c2 (by rw [h]; rfl)
    have hl : N.length ≤ 79 := by simp at c1; omega
    rw [List.dropLast_concat]
    split
    · split
      · rfl
      · show (if (0 : Int) = 0 then _ else _) = _
        rw [if_pos rfl, split_name N (by omega) h0 k (by omega)]
        rfl
    · rfl

theorem ref_at (L : List UInt8) (k : Nat) (hk : 300 ≤ k) : patchbayref4_LabelsOf.f k (mk L) = some ((labelsL L).1.map mk, (labelsL L).2) := by
  obtain ⟨k, rfl⟩ : ∃ m, k = m + 1 := ⟨k - 1, by omega⟩
  unfold patchbayref4_LabelsOf.f labelsL
  rw [mk_size, mk_toList]
  by_cases c1 : L.length > 80
  · rw [if_pos c1, if_pos (by omega)]
    rfl
  rw [if_neg c1, if_neg (by omega)]
  by_cases c2 : L = [46]
  · rw [if_pos c2, if_pos c2]
    rfl
  rw [if_neg c2, if_neg c2, cut_at L (by omega) (k + 1) (by omega), Option.bind_some]
  rcases last_cases L with rfl | ⟨N, x, rfl⟩
  · have hw : wrap64 ((((cutL []).map mk).length : Int) - 1) = 0 := by
      show wrap64 (((1 : Nat) : Int) - 1) = 0
      unfold wrap64
      omega
    have hrd : rdOf ByteArray.empty ((cutL []).map mk) (0 : Int) = mk [] := rfl
    rw [hw, if_pos (Int.le_refl 0), if_pos (show (0 : Int) < ((((cutL []).map mk).length : Nat) : Int) by
      show (0 : Int) < ((1 : Nat) : Int)
      omega), hrd, mk_toList, if_pos rfl]
    show patchbayref4_LabelsOf.j0 (k + 1) _ true = _
    rw [patchbayref4_LabelsOf.j0, if_pos rfl]
    rfl
  have hln : N.length ≤ 79 := by simp at c1; omega
  by_cases hx : x = 46
  · subst hx
    have h0 : N ≠ [] := fun h => c2 (by rw [h]; rfl)
    have hc := cutL_len N
    have hne : (cutL N).length ≠ 0 := fun h => cutL_ne N (List.eq_nil_of_length_eq_zero h)
    have hlen : ((cutL (N ++ [46])).map mk).length = (cutL N).length + 1 := by rw [cutL_dot]; simp
    have hw : wrap64 ((((cutL (N ++ [46])).map mk).length : Int) - 1) = ((cutL N).length : Int) := by rw [hlen]; unfold wrap64; omega
    have hrd : rdOf ByteArray.empty ((cutL (N ++ [46])).map mk) ((cutL N).length : Int) = mk [] := by rw [cutL_dot]; exact rd_last _ _
    have hq : ((((cutL (N ++ [46])).map mk).length : Int) == 1) = false := by rw [hlen]; simp; omega
    have htake : ((cutL (N ++ [46])).map mk).take (cutL N).length = (cutL N).map mk := by
      rw [cutL_dot, List.map_append, List.take_left' (by simp)]
    rw [hw, if_pos (by omega), if_pos (by rw [hlen]; omega), hrd, mk_toList, if_pos rfl, hq, patchbayref4_LabelsOf.j0, if_neg Bool.false_ne_true, hw, if_pos (by omega), if_pos (by rw [hlen]; omega), Option.bind_some, Int.toNat_natCast, htake]
    have h := ref_runs (cutL N) (by omega) (fun s hs => by have := cutL_piece N s hs; omega) (cutL N).length 0 k (by omega) (by omega)
    rw [List.drop_zero] at h
    rw [List.getLast?_concat, if_pos (by simp), List.dropLast_concat]
    refine h.trans ?_
    split
    · split <;> rfl
    · rfl
  · obtain ⟨A, h, e⟩ := cutL_last N x hx
    have hc := cutL_len (N ++ [x])
    have hlen : ((cutL (N ++ [x])).map mk).length = A.length + 1 := by rw [e]; simp
    have hlen2 : (cutL (N ++ [x])).length = A.length + 1 := by rw [e]; simp
    have hcl : A.length ≤ 1000 := by simp at hc c1; omega
    have hw : wrap64 ((((cutL (N ++ [x])).map mk).length : Int) - 1) = (A.length : Int) := by rw [hlen]; unfold wrap64; omega
    have hrd : rdOf ByteArray.empty ((cutL (N ++ [x])).map mk) (A.length : Int) = mk (h ++ [x]) := by rw [e]; exact rd_last _ _
    rw [hw, if_pos (by omega), if_pos (by rw [hlen]; omega), hrd, mk_toList, if_neg (by simp), patchbayref4_LabelsOf.j0, if_pos rfl, List.getLast?_concat, if_neg (by simp [hx])]
    rfl

end Go.Proofs.YtbcocpaeehgmnaaDoor.Pure
