/- The pure law of HeadChecks: both validations of a list of fields give the same error. -/
import Derived.Test.YtkolbflmihfokaaHeadx2
import Derived.Test.YtkolbflmihfokaaHeadV
namespace Go.Proofs.Ytkolbflmihfokaa.Pure
open Go.RowKit Go.Proofs.Ytkolbflmihfokaa.Head Go.Proofs.Ytkolbflmihfokaa.Runes Go.Proofs.YtkolbflmihfokaaW.PrintWords Go.Proofs.YtkolbflmihfokaaW.PrintLast

/-- No byte of s from pos on, d of them, has p. -/
def okFrom (p : Nat → Bool) (s : ByteArray) : Nat → Nat → Bool
  | 0, _ => true
  | d + 1, pos => !(p (bt s pos).toNat) && okFrom p s d (pos + 1)

theorem bt_nat (s : ByteArray) (pos : Nat) (h : pos < s.size) : (bt s pos).toNat = (s[pos]'h).toNat := by
  have := bt_at s (pos : Int) (by simpa using h)
  simp only [Int.toNat_natCast] at this
  omega

theorem okFrom_iff (p : Nat → Bool) (s : ByteArray) : ∀ (d pos : Nat), pos + d = s.size → (okFrom p s d pos = true ↔ ∀ i, pos ≤ i → ∀ h : i < s.size, p (s[i]'h).toNat = false) := by
  intro d
  induction d with
  | zero => intro pos h; exact ⟨fun _ i h1 h2 => by omega, fun _ => rfl⟩
  | succ d ih =>
    intro pos h
    simp only [okFrom, Bool.and_eq_true, Bool.not_eq_true', ih (pos + 1) (by omega), bt_nat s pos (by omega)]
    constructor
    · rintro ⟨h1, h2⟩ i h3 h4
      rcases Nat.eq_or_lt_of_le h3 with e | e
      · subst e; exact h1
      · exact h2 i e h4
    · intro h1
      exact ⟨h1 pos (Nat.le_refl _) (by omega), fun i h2 h3 => h1 i (by omega) h3⟩

theorem strAny_ok (p : Nat → Bool) (hp : ∀ r, 128 ≤ r → p r = true) (s : ByteArray) : strAny p s = !(okFrom p s s.size 0) := by
  have h1 := strAny_iff p hp s
  have h2 := okFrom_iff p s s.size 0 (by omega)
  cases ha : strAny p s <;> cases hb : okFrom p s s.size 0 <;> try rfl
  · rw [ha] at h1; rw [hb] at h2
    exfalso
    refine Bool.noConfusion (h2.2 fun i _ h => ?_)
    cases hc : p (s[i]'h).toNat
    · rfl
    · exact absurd (h1.2 ⟨i, h, hc⟩) (by simp)
  · rw [ha] at h1; rw [hb] at h2
    exfalso
    obtain ⟨i, h, hc⟩ := h1.1 rfl
    rw [h2.1 rfl i (Nat.zero_le _) h] at hc
    exact Bool.noConfusion hc

theorem l1_runs (l : List S31) (n i : Int) (a b : ByteArray) (ha : a.size ≤ 1000) : ∀ (d pos k : Nat) (g : Bool), pos + d = a.size →
    patchbayref4_HeadsFault.l1 (k + d + 1) g l n i (a.size : Int) (pos : Int) a b = patchbayref4_HeadsFault.l2 k (g && okFrom nameBad a d pos) l n i (b.size : Int) 0 a b := by
  intro d
  induction d with
  | zero =>
    intro pos k g h
    rw [patchbayref4_HeadsFault.l1, if_neg (by omega)]
    simp [okFrom]
  | succ d ih =>
    intro pos k g h
    have hw : wrap64 ((pos : Int) + 1) = ((pos + 1 : Nat) : Int) := by unfold wrap64; omega
    rw [show k + (d + 1) + 1 = (k + d + 1) + 1 by omega, patchbayref4_HeadsFault.l1, if_pos (show (pos : Int) < (a.size : Int) by omega), if_pos (show 0 ≤ (pos : Int) by omega), if_pos (show (pos : Int) < (a.size : Int) by omega), hw]
    obtain ⟨v, hv⟩ : ∃ v : Nat, bt a (pos : Int) = (v : Int) := ⟨(bt a pos).toNat, by have := (bt_range a (pos : Int)).1; omega⟩
    simp only [ih (pos + 1) k _ (by omega), okFrom, hv, Int.toNat_natCast]
    cases g
    · simp
    · simp only [if_true, Bool.true_and]
      by_cases g1 : (v : Int) > 32 <;> by_cases g2 : (v : Int) < 127 <;> by_cases g3 : (v : Int) ≥ 65 <;> by_cases g4 : (v : Int) ≤ 90 <;> simp only [g1, g2, g3, g4, if_true, if_false, decide_true, decide_false, Bool.not_true, Bool.not_false] <;> congr 2 <;> unfold nameBad <;> simp <;> omega

theorem l2_runs (l : List S31) (n i : Int) (a b : ByteArray) (hb : b.size ≤ 1000) : ∀ (d pos k : Nat) (g : Bool), pos + d = b.size →
    patchbayref4_HeadsFault.l2 (k + d + 1) g l n i (b.size : Int) (pos : Int) a b = if (g && okFrom valueBad b d pos) = true then patchbayref4_HeadsFault.l0 k l n (wrap64 (i + 1)) else some 3 := by
  intro d
  induction d with
  | zero =>
    intro pos k g h
    rw [patchbayref4_HeadsFault.l2, if_neg (by omega)]
    simp [okFrom]
  | succ d ih =>
    intro pos k g h
    have hw : wrap64 ((pos : Int) + 1) = ((pos + 1 : Nat) : Int) := by unfold wrap64; omega
    rw [show k + (d + 1) + 1 = (k + d + 1) + 1 by omega, patchbayref4_HeadsFault.l2, if_pos (show (pos : Int) < (b.size : Int) by omega), if_pos (show 0 ≤ (pos : Int) by omega), if_pos (show (pos : Int) < (b.size : Int) by omega), hw]
    obtain ⟨v, hv⟩ : ∃ v : Nat, bt b (pos : Int) = (v : Int) := ⟨(bt b pos).toNat, by have := (bt_range b (pos : Int)).1; omega⟩
    simp only [ih (pos + 1) k _ (by omega), okFrom, hv, Int.toNat_natCast]
    cases g
    · simp
    · have e : (!valueBad v) = (decide ((v : Int) > 31) && decide ((v : Int) < 127)) := by
        unfold valueBad
        by_cases g1 : v < 32 <;> by_cases g2 : 126 < v <;> simp [g1, g2] <;> omega
      rw [e]
      by_cases g1 : (v : Int) > 31 <;> by_cases g2 : (v : Int) < 127 <;> simp [g1, g2]

theorem name_hi (r : Nat) (h : 128 ≤ r) : nameBad r = true := by unfold nameBad; simp; omega
theorem value_hi (r : Nat) (h : 128 ≤ r) : valueBad r = true := by unfold valueBad; simp; omega

theorem heads_same (l : List S31) (hl : l.length ≤ 20) : ∀ (d i k k' : Nat), i + d = l.length → 300 * d + 1 ≤ k → 300 * d + 1 ≤ k' →
    ∃ r, head_Check.l0 k l (l.length : Int) i = some r ∧ patchbayref4_HeadsFault.l0 k' l (l.length : Int) i = some r := by
  intro d
  induction d with
  | zero =>
    intro i k k' hi hk hk'
    obtain ⟨k, rfl⟩ : ∃ m, k = m + 1 := ⟨k - 1, by omega⟩
    obtain ⟨k', rfl⟩ : ∃ m, k' = m + 1 := ⟨k' - 1, by omega⟩
    refine ⟨0, ?_, ?_⟩
    · rw [head_Check.l0, if_neg (by omega)]
    · rw [patchbayref4_HeadsFault.l0, if_neg (by omega)]
  | succ d ih =>
    intro i k k' hi hk hk'
    obtain ⟨k, rfl⟩ : ∃ m, k = m + 1 + 1 + 1 := ⟨k - 3, by omega⟩
    obtain ⟨k', rfl⟩ : ∃ m, k' = m + 1 + 1 := ⟨k' - 2, by omega⟩
    have hlt : (i : Int) < (l.length : Int) := by omega
    have hge : 0 ≤ (i : Int) := by omega
    have hw : wrap64 ((i : Int) + 1) = ((i + 1 : Nat) : Int) := by unfold wrap64; omega
    rw [head_Check.l0, if_pos hlt, if_pos hge, if_pos hlt, patchbayref4_HeadsFault.l0, if_pos hlt, if_pos hge, if_pos hlt]
    generalize (rd_T31 l (i : Int)).f0 = a
    generalize (rd_T31 l (i : Int)).f1 = b
    by_cases c1 : (a.size : Int) > 100
    · rw [if_pos c1, if_pos c1, head_Check.j1, if_pos rfl, patchbayref4_HeadsFault.j1, if_pos rfl]
      exact ⟨2, rfl, rfl⟩
    rw [if_neg c1, if_neg c1]
    by_cases c2 : (b.size : Int) > 100
    · rw [decide_eq_true c2, head_Check.j1, if_pos rfl, patchbayref4_HeadsFault.j1, if_pos rfl]
      exact ⟨2, rfl, rfl⟩
    rw [decide_eq_false c2, head_Check.j1, if_neg Bool.false_ne_true, patchbayref4_HeadsFault.j1, if_neg Bool.false_ne_true]
    obtain ⟨m, rfl⟩ : ∃ m, k' = (m + b.size + 1) + a.size + 1 := ⟨k' - (b.size + 1 + a.size + 1), by omega⟩
    have r1 := l1_runs l (l.length : Int) (i : Int) a b (by omega) a.size 0 (m + b.size + 1) (decide ((a.size : Int) > 0)) (by omega)
    have r2 := l2_runs l (l.length : Int) (i : Int) a b (by omega) b.size 0 m (decide ((a.size : Int) > 0) && okFrom nameBad a a.size 0) (by omega)
    simp only [Int.natCast_zero] at r1 r2
    rw [r1, r2, hw]
    clear r1 r2
    have e1 : head_Check_1.f a = some (!(okFrom nameBad a a.size 0)) := by unfold head_Check_1.f; rw [strAny_ok nameBad name_hi]
    have e2 : head_Check_2.f b = some (!(okFrom valueBad b b.size 0)) := by unfold head_Check_2.f; rw [strAny_ok valueBad value_hi]
    by_cases c3 : a.toList = ([] : List UInt8)
    · have hz : a.size = 0 := by
        have h := congrArg List.length c3
        rw [ByteArray.toList_eq] at h
        exact Array.length_toList.symm.trans h
      rw [if_pos c3, head_Check.j2, if_pos rfl, decide_eq_false (by omega)]
      exact ⟨3, rfl, by simp⟩
    · have hz : a.size ≠ 0 := by
        intro h
        apply c3
        rw [ByteArray.toList_eq]
        exact List.eq_nil_of_length_eq_zero (Array.length_toList.trans h)
      rw [if_neg c3, e1, Option.bind_some, head_Check.j2, decide_eq_true (show (a.size : Int) > 0 by omega), Bool.true_and, e2, Option.bind_some]
      cases okFrom nameBad a a.size 0
      · exact ⟨3, rfl, by simp⟩
      · cases okFrom valueBad b b.size 0
        · exact ⟨3, rfl, by simp⟩
        · obtain ⟨r, h1, h2⟩ := ih (i + 1) k m (by omega) (by omega) (by omega)
          exact ⟨r, by (try rw [hw]); simpa using h1, by (try rw [hw]); simpa using h2⟩

/-- Both validations of a list of fields. -/
theorem heads_check_same (l : List S31) (k : Nat) (hk : 6001 ≤ k) : ∃ r, head_Check.f k l = some r ∧ patchbayref4_HeadsFault.f k l = some r := by
  unfold head_Check.f patchbayref4_HeadsFault.f
  by_cases c : (l.length : Int) > 20
  · rw [if_pos c, if_pos c]
    exact ⟨2, rfl, rfl⟩
  · rw [if_neg c, if_neg c]
    exact heads_same l (by omega) l.length 0 k k (by omega) (by omega) (by omega)

theorem HeadChecks (l : List S31) (_ : l.length * 32 ≤ 140737488351232 ∧ ∀ x ∈ l, v31 x) : ∃ k, patchbaylaw4_HeadChecks.f k l = some true := by
  refine ⟨6001, ?_⟩
  unfold patchbaylaw4_HeadChecks.f
  obtain ⟨r, h1, h2⟩ := heads_check_same l 6001 (Nat.le_refl _)
  have h0 : ∀ k, patchbayref4_HeadsFault.f (k + 1 + 1 + 1 + 1 + 1) ([(⟨(⟨#[]⟩ : ByteArray), (⟨#[]⟩ : ByteArray)⟩ : S31)] : List S31) = some 3 := fun _ => rfl
  obtain ⟨r0, h3, h4⟩ := heads_check_same [(⟨(⟨#[]⟩ : ByteArray), (⟨#[]⟩ : ByteArray)⟩ : S31)] 6001 (Nat.le_refl _)
  obtain rfl : 3 = r0 := Option.some.inj ((h0 5996).symm.trans h4)
  rw [h3, h1, h2]
  simp

end Go.Proofs.Ytkolbflmihfokaa.Pure
