/- The pure law of LabelUnders. -/
import Derived.Test.YtbcocpaeehgmnaaDoorPureLabelB
import Derived.Test.YtbcocpaeehgmnaaDoorLabelx4
namespace Go.Proofs.YtbcocpaeehgmnaaDoor.Pure
open Go.RowKit Go.Proofs.YtbcocpaeehgmnaaDoor.Label Go.Proofs.YtbcocpaeehgmnaaDoor.Runes Go.Proofs.YtbcocpaeehgmnaaDoorW.PrintWords Go.Proofs.YtbcocpaeehgmnaaDoorW.PrintLast

theorem labels_few (L : List UInt8) : (labelsL L).1.length ≤ 8 := by
  unfold labelsL
  repeat' split
  all_goals first | (simp; done) | (simp only []; omega)

/-! names and their labels -/
def flat (l : List (List UInt8)) : List UInt8 := (l.map (· ++ [46])).flatten
theorem flat_cons (a : List UInt8) (l : List (List UInt8)) : flat (a :: l) = a ++ 46 :: flat l := by simp [flat]
theorem flat_append (a b : List (List UInt8)) : flat (a ++ b) = flat a ++ flat b := by simp [flat]
theorem flat_glue (b : UInt8) (l : List (List UInt8)) (h : l ≠ []) : flat (glue [b] l) = b :: flat l := by
  cases l with
  | nil => exact absurd rfl h
  | cons a l => rw [glue, flat_cons, flat_cons]; rfl
theorem flat_cut (N : List UInt8) : flat (cutL N) = N ++ [46] := by
  induction N with
  | nil => rfl
  | cons b t ih =>
    unfold cutL
    split
    · rename_i h
      rw [flat_cons, ih, h]
      rfl
    · rw [flat_glue b _ (cutL_ne t), ih]
      rfl
theorem cut_clean (N : List UInt8) : ∀ s ∈ cutL N, ∀ x ∈ s, x ≠ 46 := by
  induction N with
  | nil => intro s hs x hx; simp [cutL] at hs; subst hs; cases hx
  | cons b t ih =>
    unfold cutL
    split
    · intro s hs x hx
      rcases List.mem_cons.1 hs with rfl | hs
      · cases hx
      · exact ih s hs x hx
    · rename_i hb
      cases hc : cutL t with
      | nil => exact absurd hc (cutL_ne t)
      | cons h r =>
        rw [hc] at ih
        intro s hs x hx
        rcases List.mem_cons.1 hs with rfl | hs
        · rcases List.mem_cons.1 hx with rfl | hx
          · exact hb
          · exact ih h List.mem_cons_self x hx
        · exact ih s (List.mem_cons_of_mem _ hs) x hx
theorem cut_flat (l : List (List UInt8)) (h : ∀ s ∈ l, ∀ x ∈ s, x ≠ 46) : cutL (flat l) = l ++ [[]] := by
  induction l with
  | nil => rfl
  | cons a l ih => rw [flat_cons, cutL_first a _ (h a List.mem_cons_self), ih (fun s hs => h s (List.mem_cons_of_mem _ hs))]; rfl
theorem cut_mid (Y Z : List UInt8) : cutL (Y ++ 46 :: Z) = cutL Y ++ cutL Z := by
  induction Y with
  | nil => simp [cutL]
  | cons b t ih =>
    simp only [List.cons_append, cutL, ih]
    split
    · rfl
    · cases h : cutL t with
      | nil => exact absurd h (cutL_ne t)
      | cons _ _ => rfl

/-- What a valid name is. -/
theorem valid_name (A : List UInt8) (h : (labelsL A).2 = 0) : (A = [46] ∧ (labelsL A).1 = []) ∨ ((labelsL A).1 ≠ [] ∧ A = flat (labelsL A).1 ∧ A ≠ [46] ∧ ∀ s ∈ (labelsL A).1, ∀ x ∈ s, x ≠ 46) := by
  unfold labelsL at h ⊢
  by_cases c1 : A.length > 80
  · rw [if_pos c1] at h; cases h
  rw [if_neg c1] at h ⊢
  by_cases c2 : A = [46]
  · rw [if_pos c2]; exact .inl ⟨c2, rfl⟩
  rw [if_neg c2] at h ⊢
  cases c3 : (A.getLast? == some 46)
  · rw [c3] at h; cases h
  rw [c3] at h
  rw [if_pos rfl] at h ⊢
  obtain ⟨N, hN⟩ := List.getLast?_eq_some_iff.1 (eq_of_beq c3)
  subst hN
  rw [List.dropLast_concat] at h ⊢
  by_cases c4 : okAll 0 (cutL N) = true
  · rw [if_pos c4] at h ⊢
    by_cases c5 : (cutL N).length > 8
    · rw [if_pos c5] at h; cases h
    · rw [if_neg c5]
      exact .inr ⟨cutL_ne N, (flat_cut N).symm, c2, cut_clean N⟩
  · rw [if_neg c4] at h; cases h

def belowL (A B : List UInt8) : Bool := decide (B = [46]) || (decide (A = B) || (decide (B.length < A.length) && (decide (A.drop (A.length - B.length) = B) && (A[A.length - B.length - 1]? == some 46))))
def suffixL (l m : List (List UInt8)) : Bool := decide (m.length ≤ l.length) && decide (l.drop (l.length - m.length) = m)

theorem suffix_of {l m p : List (List UInt8)} (h : l = p ++ m) : suffixL l m = true := by
  subst h
  unfold suffixL
  rw [List.length_append, Nat.add_sub_cancel, List.drop_left]
  simp
theorem of_suffix {l m : List (List UInt8)} (h : suffixL l m = true) : ∃ p, l = p ++ m := by
  unfold suffixL at h
  simp only [Bool.and_eq_true, decide_eq_true_eq] at h
  refine ⟨l.take (l.length - m.length), ?_⟩
  conv => rhs; rw [← h.2]
  rw [h.2]
  conv => lhs; rw [← List.take_append_drop (l.length - m.length) l, h.2]

theorem last_casesG {α : Type} (L : List α) : L = [] ∨ ∃ N x, L = N ++ [x] := by
  cases h : L.getLast? with
  | none => exact .inl (List.getLast?_eq_none_iff.1 h)
  | some x => exact .inr ((List.getLast?_eq_some_iff.1 h).imp fun N hN => ⟨x, hN⟩)
theorem bool_eq {a b : Bool} (h : a = true ↔ b = true) : a = b := by cases a <;> cases b <;> simp_all

theorem under_same (A B : List UInt8) (l m : List (List UInt8)) (hA : (A = [46] ∧ l = []) ∨ (l ≠ [] ∧ A = flat l ∧ A ≠ [46] ∧ ∀ s ∈ l, ∀ x ∈ s, x ≠ 46)) (hB : (B = [46] ∧ m = []) ∨ (m ≠ [] ∧ B = flat m ∧ B ≠ [46] ∧ ∀ s ∈ m, ∀ x ∈ s, x ≠ 46)) : suffixL l m = belowL A B := by
  rcases hB with ⟨rfl, rfl⟩ | ⟨hm, hBf, hB2, hmc⟩
  · have h1 : suffixL l [] = true := suffix_of (p := l) (by simp)
    rw [h1]
    unfold belowL
    simp
  · have hmB : B.length ≠ 0 := by
      cases m with
      | nil => exact absurd rfl hm
      | cons a m => rw [hBf, flat_cons]; simp
    apply bool_eq
    constructor
    · intro h
      obtain ⟨p, hp⟩ := of_suffix h
      rcases hA with ⟨rfl, rfl⟩ | ⟨hl, hAf, hA2, hlc⟩
      · have := congrArg List.length hp
        simp at this
        exact absurd (List.eq_nil_of_length_eq_zero (by omega)) hm
      · have hAB : A = flat p ++ B := by rw [hAf, hp, flat_append, hBf]
        unfold belowL
        rw [decide_eq_false hB2, Bool.false_or]
        rcases last_casesG p with rfl | ⟨q, y, rfl⟩
        · have : A = B := by rw [hAB]; rfl
          rw [decide_eq_true this, Bool.true_or]
        · have e : flat (q ++ [y]) = (flat q ++ y) ++ [46] := by rw [flat_append, flat_cons]; simp [flat]
          rw [e] at hAB
          have hlen : A.length = (flat q ++ y).length + 1 + B.length := by rw [hAB]; simp; omega
          have hsub : A.length - B.length = (flat q ++ y).length + 1 := by omega
          have hd : A.drop (A.length - B.length) = B := by
            rw [hsub, hAB]
            exact List.drop_left' (by simp; omega)
          have hg : A[A.length - B.length - 1]? = some 46 := by
            rw [hsub, Nat.add_sub_cancel, hAB, List.append_assoc, List.getElem?_append_right (Nat.le_refl _), Nat.sub_self]
            rfl
          rw [decide_eq_true (show B.length < A.length by omega), decide_eq_true hd, hg]
          simp
    · intro h
      unfold belowL at h
      rw [decide_eq_false hB2, Bool.false_or] at h
      rcases hA with ⟨rfl, rfl⟩ | ⟨hl, hAf, hA2, hlc⟩
      · exfalso
        rw [decide_eq_false (fun e => hB2 e.symm), Bool.false_or] at h
        have h1 : decide (B.length < ([46] : List UInt8).length) = true := by
          cases hq : decide (B.length < ([46] : List UInt8).length)
          · rw [hq] at h; cases h
          · rfl
        have := of_decide_eq_true h1
        simp at this
        exact hmB (by rw [this]; rfl)
      · have hcl := cut_flat l hlc
        have hcm := cut_flat m hmc
        rw [← hAf] at hcl
        rw [← hBf] at hcm
        by_cases e : A = B
        · rw [e, hcm] at hcl
          have : l = m := (List.append_cancel_right hcl).symm
          exact suffix_of (p := []) this
        · rw [decide_eq_false e, Bool.false_or] at h
          simp only [Bool.and_eq_true, decide_eq_true_eq] at h
          obtain ⟨h1, h2, h3⟩ := h
          have h3' := eq_of_beq h3
          obtain ⟨n, hn⟩ : ∃ n, A.length - B.length = n + 1 := ⟨A.length - B.length - 1, by omega⟩
          rw [hn, Nat.add_sub_cancel] at h3'
          rw [hn] at h2
          obtain ⟨hlt, hx⟩ := List.getElem?_eq_some_iff.1 h3'
          have hsplit : A = A.take n ++ 46 :: B := by
            conv => lhs; rw [← List.take_append_drop n A, List.drop_eq_getElem_cons hlt, hx, h2]
          rw [hsplit, cut_mid, hcm, ← List.append_assoc] at hcl
          have := List.append_cancel_right hcl
          exact suffix_of (p := cutL (A.take n)) this.symm

/-! the calls -/
theorem equal_runs (x y : List (List UInt8)) (he : x.length = y.length) (hl : x.length ≤ 1000) : ∀ (d i k : Nat), i + d = x.length → d + 1 ≤ k →
    slices_Equal_string_string.l0 k (x.map mk) (y.map mk) (x.length : Int) (i : Int) = some (decide (x.drop i = y.drop i)) := by
  intro d
  induction d with
  | zero =>
    intro i k hi hk
    obtain ⟨k, rfl⟩ : ∃ m, k = m + 1 := ⟨k - 1, by omega⟩
    rw [slices_Equal_string_string.l0, if_neg (by omega), List.drop_eq_nil_of_le (by omega), List.drop_eq_nil_of_le (by omega)]
    simp
  | succ d ih =>
    intro i k hi hk
    obtain ⟨k, rfl⟩ : ∃ m, k = m + 1 := ⟨k - 1, by omega⟩
    have hx : i < x.length := by omega
    have hy : i < y.length := by omega
    have hw : wrap64 ((i : Int) + 1) = ((i + 1 : Nat) : Int) := by unfold wrap64; omega
    rw [slices_Equal_string_string.l0, if_pos (by omega), if_pos (by omega), if_pos (by rw [List.length_map]; omega), if_pos (by rw [List.length_map]; omega), rd_at x i hx, rd_at y i hy, mk_toList, mk_toList, hw, ih (i + 1) k (by omega) (by omega), List.drop_eq_getElem_cons hx, List.drop_eq_getElem_cons hy]
    by_cases c : x[i] = y[i]
    · rw [if_pos c, c]
      simp only [List.cons.injEq, true_and]
    · rw [if_neg c]
      simp only [List.cons.injEq, c, false_and, decide_false]

theorem under_at (A B : List UInt8) (k : Nat) (hk : 200 ≤ k) : label_Under.f k (mk A) (mk B) = some (if (labelsL A).2 = 0 then (if (labelsL B).2 = 0 then (suffixL (labelsL A).1 (labelsL B).1, 0) else (false, (labelsL B).2)) else (false, (labelsL A).2)) := by
  unfold label_Under.f
  have h1 := labels_few A
  have h2 := labels_few B
  rw [labels_at A k hk, Option.bind_some, labels_at B k hk, Option.bind_some]
  generalize (labelsL A).1 = l at h1 ⊢
  generalize (labelsL B).1 = m at h2 ⊢
  generalize (labelsL A).2 = e
  generalize (labelsL B).2 = f
  show (if e = 0 then _ else _) = _
  by_cases c : e = 0
  · rw [if_pos c, if_pos c]
    show (if f = 0 then _ else _) = _
    by_cases c2 : f = 0
    · rw [if_pos c2, if_pos c2]
      simp only [List.length_map]
      unfold suffixL
      by_cases c3 : m.length ≤ l.length
      · have hw : wrap64 ((l.length : Int) - (m.length : Int)) = ((l.length - m.length : Nat) : Int) := by unfold wrap64; omega
        rw [if_pos (by omega), hw, if_pos (by omega), if_pos (by omega), Int.toNat_natCast, ← List.map_drop, decide_eq_true c3, Bool.true_and]
        unfold slices_Equal_string_string.f
        have hl : (l.drop (l.length - m.length)).length = m.length := by rw [List.length_drop]; omega
        have h := equal_runs (l.drop (l.length - m.length)) m hl (by omega) m.length 0 k (by omega) (by omega)
        rw [List.drop_zero, List.drop_zero, show ((0 : Nat) : Int) = 0 from rfl] at h
        rw [List.length_map, List.length_map, if_pos (by omega), h, Option.bind_some]
      · rw [if_neg (by omega), decide_eq_false c3, Bool.false_and]
    · rw [if_neg c2, if_neg c2]
  · rw [if_neg c, if_neg c]

theorem below_at (A B : List UInt8) (hA : A.length ≤ 80) (hB : B.length ≤ 80) : patchbayref4_Below.f (mk A) (mk B) = some (belowL A B) := by
  unfold patchbayref4_Below.f belowL
  rw [mk_toList, mk_toList, mk_size, mk_size]
  by_cases c1 : B = [46]
  · rw [if_pos c1, decide_eq_true c1, Bool.true_or]
  rw [if_neg c1, decide_eq_false c1, Bool.false_or]
  by_cases c2 : A = B
  · rw [if_pos c2, decide_eq_true c2, Bool.true_or]
  rw [if_neg c2, decide_eq_false c2, Bool.false_or]
  have hw : wrap64 ((A.length : Int) - (B.length : Int)) = (A.length : Int) - (B.length : Int) := by unfold wrap64; omega
  rw [hw]
  by_cases c3 : B.length < A.length
  · obtain ⟨n, hn⟩ : ∃ n, A.length - B.length = n + 1 := ⟨A.length - B.length - 1, by omega⟩
    have hz : (A.length : Int) - (B.length : Int) = ((n + 1 : Nat) : Int) := by omega
    have hw1 : wrap64 (((n + 1 : Nat) : Int) - 1) = (n : Int) := by unfold wrap64; omega
    rw [hz, if_pos (by omega), if_pos (by omega), if_pos (by omega), Int.toNat_natCast, mk_extract, mk_toList, decide_eq_true c3, Bool.true_and, hn, Nat.add_sub_cancel, List.getElem?_eq_getElem (show n < A.length by omega)]
    have ht : (A.drop (n + 1)).take (A.length - (n + 1)) = A.drop (n + 1) := List.take_of_length_le (by rw [List.length_drop]; omega)
    rw [ht]
    by_cases c4 : A.drop (n + 1) = B
    · rw [if_pos c4, hw1, if_pos (by omega), if_pos (by omega), bt_mk A n (by omega), decide_eq_true c4, Bool.true_and]
      congr 1
      by_cases hx : A[n] = 46
      · rw [hx]
        rfl
      · have h3 : ¬ ((A[n].toNat : Int) = 46) := fun h => hx (by
          have h2 : A[n].toNat = 46 := by omega
          exact UInt8.toNat_inj.1 (h2.trans rfl))
        rw [beq_eq_false_iff_ne.2 h3]
        exact (beq_eq_false_iff_ne.2 (fun h => hx (Option.some.inj h))).symm
    · rw [if_neg c4, decide_eq_false c4, Bool.false_and]
  · rw [if_neg (by omega), decide_eq_false c3, Bool.false_and]

theorem valid_short (A : List UInt8) (h : (labelsL A).2 = 0) : A.length ≤ 80 := by
  unfold labelsL at h
  by_cases c1 : A.length > 80
  · rw [if_pos c1] at h; cases h
  · omega

theorem LabelUnders (a0 : ByteArray) (a1 : ByteArray) (_ : a0.size ≤ 140737488351232) (_ : a1.size ≤ 140737488351232) : ∃ k, patchbaylaw4_LabelUnders.f k a0 a1 = some true := by
  refine ⟨400, ?_⟩
  obtain ⟨A, rfl⟩ : ∃ L, a0 = mk L := ⟨_, (mk_of a0).symm⟩
  obtain ⟨B, rfl⟩ : ∃ L, a1 = mk L := ⟨_, (mk_of a1).symm⟩
  unfold patchbaylaw4_LabelUnders.f
  have e0 : (⟨#[]⟩ : ByteArray) = mk [] := rfl
  have e46 : (⟨#[46]⟩ : ByteArray) = mk [46] := rfl
  have hd : labelsL [] = ([], 3) := by decide +kernel
  rw [e0, e46, under_at [] [46] 400 (by omega), hd, Option.bind_some]
  show (if (3 : Int) = 3 then _ else _) = _
  rw [if_pos rfl, under_at A B 400 (by omega), Option.bind_some, ref_at A 400 (by omega), Option.bind_some, ref_at B 400 (by omega), Option.bind_some]
  have hvA := valid_name A
  have hvB := valid_name B
  have hsA := valid_short A
  have hsB := valid_short B
  generalize (labelsL A).1 = l at hvA ⊢
  generalize (labelsL B).1 = m at hvB ⊢
  generalize (labelsL A).2 = e at hvA hsA ⊢
  generalize (labelsL B).2 = f at hvB hsB ⊢
  show (if e = 0 then _ else _) = _
  by_cases c : e = 0
  · rw [if_pos c, if_pos c]
    by_cases c2 : f = 0
    · rw [if_pos c2, below_at A B (hsA c) (hsB c2), Option.bind_some, under_same A B l m (hvA c) (hvB c2)]
      subst c2
      show (if (0 : Int) = 0 then (if (0 : Int) = 0 then _ else _) else _) = _
      rw [if_pos rfl, if_pos rfl]
      simp
    · rw [if_neg c2]
      show (if f = f then (if f = 0 then _ else _) else _) = _
      rw [if_pos rfl, if_neg c2]
      rfl
  · rw [if_neg c, if_neg c]
    show (if e = e then _ else _) = _
    rw [if_pos rfl]
    rfl

end Go.Proofs.YtbcocpaeehgmnaaDoor.Pure
