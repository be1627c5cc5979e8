/- The pure law of FilesChecks: both validations of a list of files give the same error. -/
import Derived.Test.YtkolbflmihfokaaFilesx2
import Derived.Test.YtkolbflmihfokaaFilesV
namespace Go.Proofs.Ytkolbflmihfokaa.Pure
open Go.RowKit Go.Proofs.Ytkolbflmihfokaa.Files Go.Proofs.Ytkolbflmihfokaa.Runes Go.Proofs.YtkolbflmihfokaaW.PrintWords Go.Proofs.YtkolbflmihfokaaW.PrintLast

/-- No byte of s from pos on, d of them, has p. -/
def okFrom (p : Nat → Bool) (s : ByteArray) : Nat → Nat → Bool
  | 0, _ => true
  | d + 1, pos => !(p (bt s pos).toNat) && okFrom p s d (pos + 1)

theorem bt_nat (s : ByteArray) (pos : Nat) (h : pos < s.size) : (bt s pos).toNat = (s[pos]'h).toNat := by
  have := bt_at s (pos : Int) (by simpa using h)
  simp only [Int.toNat_natCast] at this
  omega

theorem okFrom_iff (p : Nat → Bool) (s : ByteArray) : ∀ (d pos : Nat), pos + d = s.size → (okFrom p s d pos = true ↔ ∀ i, pos ≤ i → ∀ h : i < s.size, p (s[i]'h).toNat = false) := by
  intro d
  induction d with
  | zero => intro pos h; exact ⟨fun _ i h1 h2 => by omega, fun _ => rfl⟩
  | succ d ih =>
    intro pos h
    simp only [okFrom, Bool.and_eq_true, Bool.not_eq_true', ih (pos + 1) (by omega), bt_nat s pos (by omega)]
    constructor
    · rintro ⟨h1, h2⟩ i h3 h4
      rcases Nat.eq_or_lt_of_le h3 with e | e
      · subst e; exact h1
      · exact h2 i e h4
    · intro h1
      exact ⟨h1 pos (Nat.le_refl _) (by omega), fun i h2 h3 => h1 i (by omega) h3⟩

theorem strAny_ok (p : Nat → Bool) (hp : ∀ r, 128 ≤ r → p r = true) (s : ByteArray) : strAny p s = !(okFrom p s s.size 0) := by
  have h1 := strAny_iff p hp s
  have h2 := okFrom_iff p s s.size 0 (by omega)
  cases ha : strAny p s <;> cases hb : okFrom p s s.size 0 <;> try rfl
  · rw [ha] at h1; rw [hb] at h2
    exfalso
    refine Bool.noConfusion (h2.2 fun i _ h => ?_)
    cases hc : p (s[i]'h).toNat
    · rfl
    · exact absurd (h1.2 ⟨i, h, hc⟩) (by simp)
  · rw [ha] at h1; rw [hb] at h2
    exfalso
    obtain ⟨i, h, hc⟩ := h1.1 rfl
    rw [h2.1 rfl i (Nat.zero_le _) h] at hc
    exact Bool.noConfusion hc

theorem path_hi (r : Nat) (h : 128 ≤ r) : pathBad r = true := by unfold pathBad; simp; omega

theorem hasPrefix_slash (s : ByteArray) : Lib.hasPrefix s.data.toList [47] = (decide (0 < s.size) && (bt s 0 == 47)) := by
  obtain ⟨⟨l⟩⟩ := s
  cases l with
  | nil => rfl
  | cons x xs =>
    have hs : (⟨⟨x :: xs⟩⟩ : ByteArray).size = xs.length + 1 := rfl
    have hb : bt ⟨⟨x :: xs⟩⟩ 0 = (x.toNat : Int) := by
      have := bt_at ⟨⟨x :: xs⟩⟩ 0 (by rw [hs]; simp)
      exact this.symm
    rw [hb]
    unfold Lib.hasPrefix
    have e : ([47] : List UInt8).isPrefixOf (x :: xs) = (47 == x) := by simp [List.isPrefixOf]
    show ([47] : List UInt8).isPrefixOf (x :: xs) = _
    rw [e, hs]
    have h2 : (47 == x) = ((x.toNat : Int) == 47) := by
      by_cases hx : x = 47
      · subst hx; rfl
      · have h1 : ¬ x.toNat = 47 := fun h => hx (UInt8.toNat_inj.1 (by simpa using h))
        have h3 : ¬ (x.toNat : Int) = 47 := by omega
        have h4 : ¬ 47 = x := fun h => hx h.symm
        rw [beq_eq_false_iff_ne.2 h4, beq_eq_false_iff_ne.2 h3]
    rw [h2]
    simp

theorem good_runs (a : ByteArray) (ha : a.size < 4611686018427387904) : ∀ (d pos k : Nat), pos + d = a.size →
    patchbayref4_GoodPath.l0 (k + d + 1) a (a.size : Int) (pos : Int) = some (okFrom pathBad a d pos && (decide (a.size ≤ 100) && (decide (0 < a.size) && (bt a 0 == 47)))) := by
  intro d
  induction d with
  | zero =>
    intro pos k h
    rw [patchbayref4_GoodPath.l0, if_neg (by omega)]
    by_cases c1 : 0 < a.size
    · rw [if_pos (show (a.size : Int) > 0 by omega), if_pos (show 0 < (a.size : Int) by omega)]
      by_cases c2 : a.size ≤ 100
      · rw [if_pos (show (a.size : Int) ≤ 100 by omega)]
        simp [okFrom, c1, c2]
      · rw [if_neg (show ¬ (a.size : Int) ≤ 100 by omega)]
        simp [c2]
    · rw [if_neg (show ¬ (a.size : Int) > 0 by omega)]
      simp [c1]
  | succ d ih =>
    intro pos k h
    have hw : wrap64 ((pos : Int) + 1) = ((pos + 1 : Nat) : Int) := by unfold wrap64; omega
    rw [show k + (d + 1) + 1 = (k + d + 1) + 1 by omega, patchbayref4_GoodPath.l0, if_pos (show (pos : Int) < (a.size : Int) by omega), if_pos (show 0 ≤ (pos : Int) by omega), if_pos (show (pos : Int) < (a.size : Int) by omega), hw]
    obtain ⟨v, hv⟩ : ∃ v : Nat, bt a (pos : Int) = (v : Int) := ⟨(bt a pos).toNat, by have := (bt_range a (pos : Int)).1; omega⟩
    simp only [ih (pos + 1) k (by omega), okFrom, hv, Int.toNat_natCast]
    by_cases g1 : (v : Int) < 33
    · have e : pathBad v = true := by unfold pathBad; simp; omega
      rw [if_pos g1, e]
      simp
    · rw [if_neg g1]
      by_cases g2 : (v : Int) > 126
      · have e : pathBad v = true := by unfold pathBad; simp; omega
        rw [if_pos g2, e]
        simp
      · have e : pathBad v = false := by unfold pathBad; simp; omega
        rw [if_neg g2, e]
        simp

theorem path_same (a : ByteArray) (ha : a.size < 4611686018427387904) (k : Nat) (hk : a.size + 1 ≤ k) : patchbayref4_GoodPath.f k a = files_isPath.f a := by
  obtain ⟨m, rfl⟩ : ∃ m, k = m + a.size + 1 := ⟨k - (a.size + 1), by omega⟩
  unfold patchbayref4_GoodPath.f files_isPath.f
  have h := good_runs a ha a.size 0 m (by omega)
  simp only [Int.natCast_zero] at h
  have e2 : files_isPath_1.f a = some (!(okFrom pathBad a a.size 0)) := by unfold files_isPath_1.f; rw [strAny_ok pathBad path_hi]
  have e3 : strings_HasPrefix.f a ⟨#[47]⟩ = some (decide (0 < a.size) && (bt a 0 == 47)) := by unfold strings_HasPrefix.f; rw [← hasPrefix_slash]
  rw [h, e2, e3, Option.bind_some]
  by_cases c2 : a.size ≤ 100
  · rw [if_pos (show (a.size : Int) ≤ 100 by omega), decide_eq_true c2]
    cases (decide (0 < a.size) && (bt a 0 == 47)) <;> simp
  · rw [if_neg (show ¬ (a.size : Int) ≤ 100 by omega), decide_eq_false c2]
    simp

theorem rd_mem36 (l : List S36) (i : Nat) (h : i < l.length) : rd_T36 l (i : Int) ∈ l := by
  unfold rd_T36
  rw [Int.toNat_natCast, List.getD_eq_getElem?_getD, List.getElem?_eq_getElem h]
  exact List.getElem_mem h

theorem fault_same (l : List S36) (hl : l.length ≤ 20) (hs : ∀ x ∈ l, x.f0.size ≤ 140737488351232) (K : Nat) (hK : 140737488351233 ≤ K) : ∀ (d i k : Nat), i + d = l.length → 2 * d + 1 + K ≤ k →
    ∃ r, files_Check.l0 k l l (l.length : Int) i = some r ∧ patchbayref4_FilesFault.l0 k l l (l.length : Int) i = some r := by
  intro d
  induction d with
  | zero =>
    intro i k hi hk
    obtain ⟨k, rfl⟩ : ∃ m, k = m + 1 := ⟨k - 1, by omega⟩
    refine ⟨0, ?_, ?_⟩
    · rw [files_Check.l0, if_neg (by omega)]
    · rw [patchbayref4_FilesFault.l0, if_neg (by omega)]
  | succ d ih =>
    intro i k hi hk
    obtain ⟨k, rfl⟩ : ∃ m, k = m + 1 + 1 := ⟨k - 2, by omega⟩
    have hlt : (i : Int) < (l.length : Int) := by omega
    have hge : 0 ≤ (i : Int) := by omega
    have hw : wrap64 ((i : Int) + 1) = ((i + 1 : Nat) : Int) := by unfold wrap64; omega
    have hsz := hs _ (rd_mem36 l i (by omega))
    rw [files_Check.l0, if_pos hlt, if_pos hge, if_pos hlt, patchbayref4_FilesFault.l0, if_pos hlt, if_pos hge, if_pos hlt]
    rw [path_same _ (by omega) (k + 1) (by omega)]
    have hdef : ∃ b, files_isPath.f (rd_T36 l (i : Int)).f0 = some b := by
      unfold files_isPath.f strings_HasPrefix.f files_isPath_1.f
      rw [Option.bind_some, Option.bind_some]
      split
      · split
        · exact ⟨_, rfl⟩
        · exact ⟨_, rfl⟩
      · exact ⟨_, rfl⟩
    obtain ⟨b, hb⟩ := hdef
    rw [hb, Option.bind_some, Option.bind_some]
    clear hb hsz
    generalize (rd_T36 l (i : Int)).f0 = a
    generalize (rd_T36 l (i : Int)).f1 = v
    generalize (rd_T36 l (i : Int)).f2 = y
    cases b
    · rw [if_neg Bool.false_ne_true, if_neg Bool.false_ne_true]
      exact ⟨3, rfl, rfl⟩
    rw [if_pos rfl, if_pos rfl]
    have key : ∀ q : Bool, ∃ r, files_Check.j1 (k + 1) l (i : Int) l (l.length : Int) (i : Int) q a v y = some r ∧ patchbayref4_FilesFault.j1 (k + 1) l (i : Int) l (l.length : Int) (i : Int) q a v y = some r := by
      intro q
      rw [files_Check.j1, patchbayref4_FilesFault.j1]
      cases q
      · rw [if_neg Bool.false_ne_true, if_neg Bool.false_ne_true]
        by_cases c2 : (y.size : Int) > 2000
        · rw [if_pos c2, if_pos c2]; exact ⟨2, rfl, rfl⟩
        rw [if_neg c2, if_neg c2]
        by_cases c3 : (i : Int) > 0
        · have hw1 : wrap64 ((i : Int) - 1) = (i : Int) - 1 := by unfold wrap64; omega
          rw [if_pos c3, if_pos c3, hw1, if_pos (show 0 ≤ (i : Int) - 1 by omega), if_pos (show 0 ≤ (i : Int) - 1 by omega), if_pos (show (i : Int) - 1 < (l.length : Int) by omega), if_pos (show (i : Int) - 1 < (l.length : Int) by omega), hw]
          generalize Op.bytesLess _ _ = z
          cases z
          · rw [if_neg Bool.false_ne_true, if_neg Bool.false_ne_true]; exact ⟨6, rfl, rfl⟩
          · rw [if_pos rfl, if_pos rfl]
            exact ih (i + 1) k (by omega) (by omega)
        · rw [if_neg c3, if_neg c3, hw]
          exact ih (i + 1) k (by omega) (by omega)
      · rw [if_pos rfl, if_pos rfl]; exact ⟨10, rfl, rfl⟩
    by_cases c1 : v < 1
    · rw [if_pos c1, if_pos c1]; exact key true
    · rw [if_neg c1, if_neg c1]; exact key _

/-- Both validations of a list of files. -/
theorem files_check_same (l : List S36) (hs : ∀ x ∈ l, x.f0.size ≤ 140737488351232) (k : Nat) (hk : 140737488351233 + 41 ≤ k) : ∃ r, files_Check.f k l = some r ∧ patchbayref4_FilesFault.f k l = some r := by
  unfold files_Check.f patchbayref4_FilesFault.f
  by_cases c : (l.length : Int) > 20
  · rw [if_pos c, if_pos c]
    exact ⟨2, rfl, rfl⟩
  · rw [if_neg c, if_neg c]
    exact fault_same l (by omega) hs 140737488351233 (Nat.le_refl _) l.length 0 k (by omega) (by omega)

theorem FilesChecks (l : List S36) (hv : l.length * 40 ≤ 140737488351232 ∧ ∀ x ∈ l, v36 x) : ∃ k, patchbaylaw4_FilesChecks.f k l = some true := by
  refine ⟨140737488351233 + 41, ?_⟩
  unfold patchbaylaw4_FilesChecks.f
  obtain ⟨r, h1, h2⟩ := files_check_same l (fun x hx => (hv.2 x hx).1) _ (Nat.le_refl _)
  obtain ⟨r0, h3, h4⟩ := files_check_same [(⟨(⟨#[]⟩ : ByteArray), 0, (⟨#[]⟩ : ByteArray)⟩ : S36)] (fun x hx => by rw [List.mem_singleton.1 hx]; exact Nat.zero_le _) _ (Nat.le_refl (140737488351233 + 41))
  have h0 : ∀ k, patchbayref4_FilesFault.f (k + 1 + 1) ([(⟨(⟨#[]⟩ : ByteArray), 0, (⟨#[]⟩ : ByteArray)⟩ : S36)] : List S36) = some 3 := fun _ => rfl
  obtain rfl : 3 = r0 := Option.some.inj ((h0 (140737488351233 + 39)).symm.trans h4)
  rw [h3, h1, h2]
  simp

end Go.Proofs.Ytkolbflmihfokaa.Pure
