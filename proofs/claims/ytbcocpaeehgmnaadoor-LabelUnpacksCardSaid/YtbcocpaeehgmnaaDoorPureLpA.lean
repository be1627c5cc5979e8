/- What label.Labels and its reference compute at a name, as one plain function of its bytes. -/
import Derived.Test.YtbcocpaeehgmnaaDoorLpx5
namespace Go.Proofs.YtbcocpaeehgmnaaDoor.Pure
open Go.RowKit Go.Proofs.YtbcocpaeehgmnaaDoor.Lp Go.Proofs.YtbcocpaeehgmnaaDoor.Runes Go.Proofs.YtbcocpaeehgmnaaDoorW.PrintWords Go.Proofs.YtbcocpaeehgmnaaDoorW.PrintLast

def mk (l : List UInt8) : ByteArray := ⟨l.toArray⟩
theorem mk_of (s : ByteArray) : mk s.data.toList = s := Lib.mk_data s
theorem mk_toList (l : List UInt8) : (mk l).toList = l := ByteArray.toList_mk l
theorem mk_size (l : List UInt8) : (mk l).size = l.length := by simp [mk, ByteArray.size]
theorem mk_extract (L : List UInt8) (a b : Nat) : (mk L).extract a b = mk ((L.drop a).take (b - a)) := ByteArray.extract_mk L a b
theorem mk_append (A B : List UInt8) : mk A ++ mk B = mk (A ++ B) := by
  unfold mk
  apply ByteArray.ext
  simp
theorem mk_inj {A B : List UInt8} (h : mk A = mk B) : A = B := by rw [← mk_toList A, ← mk_toList B, h]
theorem bt_mk (L : List UInt8) (i : Nat) (h : i < L.length) : bt (mk L) (i : Int) = (L[i].toNat : Int) := by
  have hs : (i : Int).toNat < (mk L).size := by rw [mk_size, Int.toNat_natCast]; exact h
  rw [← bt_at (mk L) (i : Int) hs]
  rfl

/-- A list of bytes, cut at each '.'. -/
def glue (c : List UInt8) : List (List UInt8) → List (List UInt8)
  | [] => [c]
  | h :: r => (c ++ h) :: r
def cutL : List UInt8 → List (List UInt8)
  | [] => [[]]
  | b :: t => if b = 46 then [] :: cutL t else glue [b] (cutL t)
theorem glue_glue (a b : List UInt8) (l : List (List UInt8)) : glue a (glue b l) = glue (a ++ b) l := by cases l <;> simp [glue]
theorem glue_ne (a : List UInt8) (l : List (List UInt8)) : glue a l ≠ [] := by cases l <;> simp [glue]
theorem cutL_ne (L : List UInt8) : cutL L ≠ [] := by
  cases L with
  | nil => simp [cutL]
  | cons b t =>
    unfold cutL
    split
    · simp
    · exact glue_ne _ _
theorem glue_nil (l : List (List UInt8)) (h : l ≠ []) : glue [] l = l := by cases l with
  | nil => exact absurd rfl h
  | cons _ _ => rfl
theorem cutL_dot (N : List UInt8) : cutL (N ++ [46]) = cutL N ++ [[]] := by
  induction N with
  | nil => rfl
  | cons b t ih =>
    simp only [List.cons_append, cutL, ih]
    split
    · rfl
    · cases h : cutL t with
      | nil => exact absurd h (cutL_ne t)
      | cons _ _ => rfl
theorem cutL_last (N : List UInt8) (x : UInt8) (hx : x ≠ 46) : ∃ A h, cutL (N ++ [x]) = A ++ [h ++ [x]] := by
  induction N with
  | nil => exact ⟨[], [], by simp [cutL, hx, glue]⟩
  | cons b t ih =>
    obtain ⟨A, h, e⟩ := ih
    simp only [List.cons_append, cutL, e]
    split
    · exact ⟨[] :: A, h, rfl⟩
    · cases A with
      | nil => exact ⟨[], b :: h, rfl⟩
      | cons a A => exact ⟨(b :: a) :: A, h, rfl⟩
theorem cutL_first (A B : List UInt8) (h : ∀ x ∈ A, x ≠ 46) : cutL (A ++ 46 :: B) = A :: cutL B := by
  induction A with
  | nil => simp [cutL]
  | cons a A ih =>
    have := ih (fun x hx => h x (List.mem_cons_of_mem _ hx))
    simp only [List.cons_append, cutL, this, if_neg (h a List.mem_cons_self)]
    rfl
theorem cutL_none (A : List UInt8) (h : ∀ x ∈ A, x ≠ 46) : cutL A = [A] := by
  induction A with
  | nil => rfl
  | cons a A ih =>
    have := ih (fun x hx => h x (List.mem_cons_of_mem _ hx))
    simp only [cutL, this, if_neg (h a List.mem_cons_self)]
    rfl
theorem glue_len (a : List UInt8) (l : List (List UInt8)) (h : l ≠ []) : (glue a l).length = l.length := by cases l with
  | nil => exact absurd rfl h
  | cons _ _ => rfl
theorem cutL_len (L : List UInt8) : (cutL L).length ≤ L.length + 1 := by
  induction L with
  | nil => simp [cutL]
  | cons b t ih =>
    unfold cutL
    split
    · simp; exact ih
    · rw [glue_len _ _ (cutL_ne t)]; simp; omega
theorem cutL_piece (L : List UInt8) : ∀ s ∈ cutL L, s.length ≤ L.length := by
  induction L with
  | nil => intro s hs; simp [cutL] at hs; simp [hs]
  | cons b t ih =>
    intro s hs
    unfold cutL at hs
    split at hs
    · rcases List.mem_cons.1 hs with rfl | hs
      · simp
      · have := ih s hs; simp; omega
    · cases hc : cutL t with
      | nil => exact absurd hc (cutL_ne t)
      | cons h r =>
        rw [hc] at hs ih
        rcases List.mem_cons.1 hs with rfl | hs
        · have := ih h List.mem_cons_self; simp; omega
        · have := ih s (List.mem_cons_of_mem _ hs); simp; omega

/-! the reference's cut -/
theorem rd_last (A : List (List UInt8)) (c : List UInt8) : rdOf ByteArray.empty ((A ++ [c]).map mk) (A.length : Int) = mk c := by
  unfold rdOf
  rw [Int.toNat_natCast, List.getD_eq_getElem?_getD, List.getElem?_map, List.getElem?_append_right (Nat.le_refl _), Nat.sub_self]
  rfl
theorem set_last (A : List (List UInt8)) (c d : List UInt8) : ((A ++ [c]).map mk).set A.length (mk d) = (A ++ [d]).map mk := by
  rw [← List.map_set, List.set_append_right _ _ (Nat.le_refl _), Nat.sub_self]
  rfl

theorem cut_runs (L : List UInt8) (hL : L.length ≤ 1000) : ∀ (d i k : Nat) (A : List (List UInt8)) (c : List UInt8), i + d = L.length → A.length ≤ i → c.length ≤ i →
    patchbayref4_Cut.l0 (k + d + 1) (mk L) 46 ((A ++ [c]).map mk) ((mk L).size : Int) (i : Int) = some ((A ++ glue c (cutL (L.drop i))).map mk) := by
  intro d
  induction d with
  | zero =>
    intro i k A c hi _ _
    rw [patchbayref4_Cut.l0, if_neg (by rw [mk_size]; omega), List.drop_eq_nil_of_le (by omega)]
    simp [cutL, glue]
  | succ d ih =>
    intro i k A c hi hA hc
    have hlt : i < L.length := by omega
    have hw : wrap64 ((i : Int) + 1) = ((i + 1 : Nat) : Int) := by unfold wrap64; omega
    have c1 : (i : Int) < ((mk L).size : Int) := by rw [mk_size]; omega
    rw [show k + (d + 1) + 1 = (k + d + 1) + 1 by omega, patchbayref4_Cut.l0, if_pos c1, if_pos (show 0 ≤ (i : Int) by omega), if_pos c1, bt_mk L i hlt, hw]
    have hdrop : L.drop i = L[i] :: L.drop (i + 1) := List.drop_eq_getElem_cons hlt
    have hlen : ((A ++ [c]).map mk).length = A.length + 1 := by simp
    rw [hdrop]
    by_cases hb : L[i] = 46
    · have hb' : (L[i].toNat : Int) = 46 := by rw [hb]; rfl
      rw [if_pos hb', hlen, if_pos (by omega)]
      have e : (A ++ [c]).map mk ++ [(⟨#[]⟩ : ByteArray)] = ((A ++ [c]) ++ [[]]).map mk := by simp [mk]
      rw [e, ih (i + 1) k (A ++ [c]) [] (by omega) (by simp; omega) (by simp), glue_nil _ (cutL_ne _), cutL, if_pos hb]
      simp [glue]
    · have hb' : ¬ (L[i].toNat : Int) = 46 := fun h => hb (UInt8.toNat_inj.1 (by
        have : L[i].toNat = 46 := by omega
        simpa using this))
      have hw2 : wrap64 ((((A ++ [c]).map mk).length : Int) - 1) = (A.length : Int) := by rw [hlen]; unfold wrap64; omega
      have hex : (mk L).extract ((i : Int)).toNat (((i + 1 : Nat) : Int)).toNat = mk [L[i]] := by
        rw [Int.toNat_natCast, Int.toNat_natCast, mk_extract, hdrop, show i + 1 - i = 1 by omega]
        rfl
      rw [if_neg hb', hw2, if_pos (by omega), if_pos (by rw [hlen]; omega), if_pos (by omega), if_pos (by rw [mk_size]; omega), rd_last, hex, mk_append, Int.toNat_natCast, set_last]
      rw [if_pos (by simp only [mk_size, List.length_singleton]; omega)]
      rw [ih (i + 1) k A (c ++ [L[i]]) (by omega) (by omega) (by simp; omega), cutL, if_neg hb, glue_glue]

theorem cut_at (L : List UInt8) (hL : L.length ≤ 1000) (k : Nat) (hk : L.length + 1 ≤ k) : patchbayref4_Cut.f k (mk L) 46 = some ((cutL L).map mk) := by
  obtain ⟨m, rfl⟩ : ∃ m, k = m + L.length + 1 := ⟨k - (L.length + 1), by omega⟩
  unfold patchbayref4_Cut.f
  have h := cut_runs L hL L.length 0 m [] [] (by omega) (by simp) (by simp)
  rw [List.drop_zero, glue_nil _ (cutL_ne _)] at h
  exact h

/-! strings.Split at a '.' -/
theorem index_dot (L : List UInt8) : (Lib.indexByte L 46 = -1 ∧ ∀ x ∈ L, x ≠ 46) ∨ (∃ A B, L = A ++ 46 :: B ∧ (∀ x ∈ A, x ≠ 46) ∧ Lib.indexByte L 46 = (A.length : Int)) := by
  induction L with
  | nil => exact .inl ⟨rfl, fun x hx => by cases hx⟩
  | cons b t ih =>
    by_cases hb : b = 46
    · subst hb
      exact .inr ⟨[], t, rfl, fun x hx => (by cases hx), rfl⟩
    · have e : Lib.indexByte (b :: t) 46 = if (b == 46) = true then 0 else if (Lib.indexByte t 46 == -1) = true then -1 else Lib.indexByte t 46 + 1 := rfl
      rw [e, if_neg (by simpa using hb)]
      rcases ih with ⟨h1, h2⟩ | ⟨A, B, h1, h2, h3⟩
      · refine .inl ⟨by rw [h1]; rfl, fun x hx => ?_⟩
        rcases List.mem_cons.1 hx with rfl | hx
        · exact hb
        · exact h2 x hx
      · refine .inr ⟨b :: A, B, by rw [h1]; rfl, fun x hx => ?_, ?_⟩
        · rcases List.mem_cons.1 hx with rfl | hx
          · exact hb
          · exact h2 x hx
        · rw [h3, if_neg (by intro h; have := eq_of_beq h; omega)]
          rw [List.length_cons]
          omega

theorem split_runs : ∀ (n : Nat) (L : List UInt8), L.count 46 = n → Lib.splitB (mk [46]) 0 n (mk L) = (cutL L).map mk := by
  intro n
  induction n with
  | zero =>
    intro L h
    rw [cutL_none L (fun x hx e => by subst e; exact (Nat.pos_iff_ne_zero.1 (List.count_pos_iff.2 hx)) h)]
    rfl
  | succ n ih =>
    intro L h
    rcases index_dot L with ⟨h1, h2⟩ | ⟨A, B, h1, h2, h3⟩
    · exact absurd (List.count_pos_iff.1 (by omega : 0 < L.count 46)) (fun hm => h2 46 hm rfl)
    · have hi : Lib.indexB (mk L) (mk [46]) = (A.length : Int) := (Lib.index_one L 46).trans h3
      have hs1 : (mk [46]).size = 1 := rfl
      rw [Lib.splitB, hi, if_neg (by intro h; have := eq_of_beq h; omega), Nat.add_zero, Int.toNat_natCast, mk_extract, mk_extract, mk_size, hs1]
      have e1 : (L.drop 0).take (A.length - 0) = A := by rw [h1]; simp
      have e2 : (L.drop (A.length + 1)).take (L.length - (A.length + 1)) = B := by
        rw [h1]
        have : (A ++ 46 :: B).drop (A.length + 1) = B := by
          rw [← List.drop_drop, List.drop_left]
          rfl
        rw [this, List.take_of_length_le (by simp; omega)]
      have hc : B.count 46 = n := by
        rw [h1, List.count_append, List.count_cons_self] at h
        have : A.count 46 = 0 := List.count_eq_zero.2 (fun hm => h2 46 hm rfl)
        omega
      rw [e1, e2, ih B hc]
      conv => rhs; rw [h1, cutL_first A B h2]
      rfl

theorem split_at (L : List UInt8) (hL : L.length ≤ 1000) : strings_Split.f (mk L) (⟨#[46]⟩ : ByteArray) = some ((cutL L).map mk) := by
  unfold strings_Split.f
  rw [if_pos ⟨by rw [mk_size]; omega, rfl⟩]
  have hc : Lib.countB (mk L) (mk [46]) = L.count 46 := Lib.count_one 46 L
  exact congrArg some ((congrArg (fun n => Lib.splitB (mk [46]) 0 n (mk L)) hc).trans (split_runs _ L rfl))

/-! one label -/
def good (b : UInt8) : Bool := !labelBad b.toNat
def goodL (s : List UInt8) : Bool := decide (0 < s.length) && decide (s.length ≤ 20) && s.head? != some 45 && s.all good

def okG : Nat → List UInt8 → Bool
  | _, [] => true
  | i, b :: t => (good b && (b != 45 || decide (0 < i))) && okG (i + 1) t
theorem okG_pos (t : List UInt8) : ∀ i, 0 < i → okG i t = t.all good := by
  induction t with
  | nil => intro i _; rfl
  | cons b t ih =>
    intro i hi
    simp only [okG, List.all_cons, ih (i + 1) (by omega), decide_eq_true hi, Bool.or_true, Bool.and_true]

set_option linter.unusedSimpArgs false in
theorem good_step (b : UInt8) (i : Nat) {α : Type} (y n : α) :
    (if (b.toNat : Int) ≥ 97 then (if (b.toNat : Int) ≤ 122 then y else (if (b.toNat : Int) ≥ 48 then (if (b.toNat : Int) ≤ 57 then y else (if (b.toNat : Int) = 95 then y else (if (b.toNat : Int) = 45 then (if (i : Int) > 0 then y else n) else n))) else (if (b.toNat : Int) = 95 then y else (if (b.toNat : Int) = 45 then (if (i : Int) > 0 then y else n) else n)))) else (if (b.toNat : Int) ≥ 48 then (if (b.toNat : Int) ≤ 57 then y else (if (b.toNat : Int) = 95 then y else (if (b.toNat : Int) = 45 then (if (i : Int) > 0 then y else n) else n))) else (if (b.toNat : Int) = 95 then y else (if (b.toNat : Int) = 45 then (if (i : Int) > 0 then y else n) else n)))) =
    if (good b && (b != 45 || decide (0 < i))) = true then y else n := by
  have hb : (b != 45) = !decide (b.toNat = 45) := by
    by_cases h : b = 45
    · subst h; rfl
    · have : ¬ b.toNat = 45 := fun e => h (UInt8.toNat_inj.1 (by simpa using e))
      simp [h, this]
  rw [hb]
  unfold good labelBad
  generalize b.toNat = v
  by_cases h5 : v = 45
  · subst h5
    by_cases h7 : 0 < i
    · have z7 : (i : Int) > 0 := by omega
      simp [h7]
    · have z7 : ¬ (i : Int) > 0 := by omega
      simp [h7]
  by_cases h6 : v = 95
  · subst h6
    simp
  by_cases h1 : 97 ≤ v <;> by_cases h2 : v ≤ 122 <;> by_cases h3 : 48 ≤ v <;> by_cases h4 : v ≤ 57 <;> by_cases h7 : 0 < i
  all_goals first | (exfalso; omega) | skip
  all_goals
    have z1 : ((v : Int) ≥ 97) = (97 ≤ v) := propext ⟨fun h => by omega, fun h => by omega⟩
    have z2 : ((v : Int) ≤ 122) = (v ≤ 122) := propext ⟨fun h => by omega, fun h => by omega⟩
    have z3 : ((v : Int) ≥ 48) = (48 ≤ v) := propext ⟨fun h => by omega, fun h => by omega⟩
    have z4 : ((v : Int) ≤ 57) = (v ≤ 57) := propext ⟨fun h => by omega, fun h => by omega⟩
    have z5 : ((v : Int) = 45) = (v = 45) := propext ⟨fun h => by omega, fun h => by omega⟩
    have z6 : ((v : Int) = 95) = (v = 95) := propext ⟨fun h => by omega, fun h => by omega⟩
    have z7 : ((i : Int) > 0) = (0 < i) := propext ⟨fun h => by omega, fun h => by omega⟩
    simp only [z1, z2, z3, z4, z5, z6, z7, h1, h2, h3, h4, h5, h6, h7, if_true, if_false, decide_true, decide_false, Bool.and_true, Bool.and_false, Bool.or_true, Bool.or_false, Bool.true_or, Bool.false_or, Bool.not_true, Bool.not_false, Bool.false_eq_true]

theorem good_runs (L : List UInt8) (hL : L.length ≤ 1000) : ∀ (d i k : Nat), i + d = L.length →
    patchbayref4_goodLabel.l0 (k + d + 1) (mk L) ((mk L).size : Int) (i : Int) = some (okG i (L.drop i) && (decide (0 < L.length) && decide (L.length ≤ 20))) := by
  intro d
  induction d with
  | zero =>
    intro i k hi
    rw [patchbayref4_goodLabel.l0, if_neg (by rw [mk_size]; omega), List.drop_eq_nil_of_le (by omega), mk_size]
    by_cases c1 : 0 < L.length
    · rw [if_pos (show (L.length : Int) > 0 by omega)]
      by_cases c2 : L.length ≤ 20
      · rw [decide_eq_true (show (L.length : Int) < 21 by omega)]
        simp [okG, c1, c2]
      · rw [decide_eq_false (show ¬ (L.length : Int) < 21 by omega)]
        simp [c2]
    · rw [if_neg (show ¬ (L.length : Int) > 0 by omega)]
      simp [c1]
  | succ d ih =>
    intro i k hi
    have hlt : i < L.length := by omega
    have hw : wrap64 ((i : Int) + 1) = ((i + 1 : Nat) : Int) := by unfold wrap64; omega
    have c1 : (i : Int) < ((mk L).size : Int) := by rw [mk_size]; omega
    rw [show k + (d + 1) + 1 = (k + d + 1) + 1 by omega, patchbayref4_goodLabel.l0, if_pos c1, if_pos (show 0 ≤ (i : Int) by omega), if_pos c1, bt_mk L i hlt, hw, ih (i + 1) k (by omega), good_step]
    have hdrop : L.drop i = L[i] :: L.drop (i + 1) := List.drop_eq_getElem_cons hlt
    rw [hdrop, okG]
    cases (good L[i] && (L[i] != 45 || decide (0 < i))) <;> simp

theorem good_at (L : List UInt8) (hL : L.length ≤ 1000) (k : Nat) (hk : L.length + 1 ≤ k) : patchbayref4_goodLabel.f k (mk L) = some (goodL L) := by
  obtain ⟨m, rfl⟩ : ∃ m, k = m + L.length + 1 := ⟨k - (L.length + 1), by omega⟩
  unfold patchbayref4_goodLabel.f
  have h := good_runs L hL L.length 0 m (by omega)
  simp only [Int.natCast_zero, List.drop_zero] at h
  rw [h]
  congr 1
  unfold goodL
  cases L with
  | nil => rfl
  | cons b t =>
    simp only [okG, okG_pos t (0 + 1) (by omega), List.all_cons, List.head?_cons]
    have e : (some b != some (45 : UInt8)) = (b != 45) := rfl
    rw [e, decide_eq_false (show ¬ 0 < 0 by omega), Bool.or_false]
    cases (b != 45) <;> cases good b <;> cases t.all good <;> simp

end Go.Proofs.YtbcocpaeehgmnaaDoor.Pure
