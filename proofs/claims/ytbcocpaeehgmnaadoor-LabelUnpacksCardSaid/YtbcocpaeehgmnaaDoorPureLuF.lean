/- Packing many names: the program and the reference, as far as the output is short. -/
import Derived.Test.YtbcocpaeehgmnaaDoorPureLuE
namespace Go.Proofs.YtbcocpaeehgmnaaDoor.Pure
open Go.RowKit Go.Proofs.YtbcocpaeehgmnaaDoor.Lp Go.Proofs.YtbcocpaeehgmnaaDoor.Runes Go.Proofs.YtbcocpaeehgmnaaDoorW.PrintWords Go.Proofs.YtbcocpaeehgmnaaDoorW.PrintLast

def labs (s : ByteArray) : List (List UInt8) × Int := labelsL s.data.toList
theorem labels_of (s : ByteArray) (k : Nat) (hk : 200 ≤ k) : label_Labels.f k s = some ((labs s).1.map mk, (labs s).2) := by have := labels_at s.data.toList k hk; rwa [mk_of] at this
theorem ref_of (s : ByteArray) : Ev (fun k => patchbayref4_LabelsOf.f k s) ((labs s).1.map mk, (labs s).2) := ⟨300, fun k hk => by have := ref_at s.data.toList k hk; rwa [mk_of] at this⟩
def packP : List ByteArray → List Int → List (ByteArray × Int) → List Int × Int
  | [], o, _ => (o, 0)
  | s :: r, o, kn => if (labs s).2 = 0 then packP r (putP (labs s).1 o kn).1 (putP (labs s).1 o kn).2 else ([], (labs s).2)
def firstCode : List ByteArray → Int
  | [] => 0
  | s :: r => if (labs s).2 = 0 then firstCode r else (labs s).2
theorem packP_code : ∀ (l : List ByteArray) (o : List Int) (kn : List (ByteArray × Int)), (packP l o kn).2 = firstCode l := by
  intro l
  induction l with
  | nil => intro o kn; rfl
  | cons s r ih =>
    intro o kn
    rw [packP, firstCode]
    by_cases c : (labs s).2 = 0
    · rw [if_pos c, if_pos c]; exact ih _ _
    · rw [if_neg c, if_neg c]
theorem packP_bad : ∀ (l : List ByteArray) (o : List Int) (kn : List (ByteArray × Int)), firstCode l ≠ 0 → (packP l o kn).1 = [] := by
  intro l
  induction l with
  | nil => intro o kn h; exact absurd rfl h
  | cons s r ih =>
    intro o kn h
    rw [firstCode] at h
    rw [packP]
    by_cases c : (labs s).2 = 0
    · rw [if_pos c] at h ⊢; exact ih _ _ h
    · rw [if_neg c]
/-- Between two names. -/
structure Mid (m : Nat) (o : List Int) (kn : List (ByteArray × Int)) : Prop where
  out : o.length ≤ 82 * m
  known : kn.length ≤ 8 * m
  offs : ∀ p ∈ kn, 0 ≤ p.2 ∧ p.2 ≤ 100000
theorem mid_inv {m : Nat} {o : List Int} {kn : List (ByteArray × Int)} (h : Mid m o kn) (hm : m < 256) (s : ByteArray) (hs : (labs s).2 = 0) : Inv (labs s).1 o kn := by
  have h1 := labels_facts s.data.toList
  have h2 := flat_short s.data.toList hs
  have h3 := h.out
  have h4 := h.known
  have h5 : (labs s).1.length ≤ 8 := h1.1
  have h6 : (flat (labs s).1).length ≤ 80 := h2
  exact ⟨by omega, h1.2, by omega, by omega, h.offs⟩
theorem mid_next {m : Nat} {o : List Int} {kn : List (ByteArray × Int)} (h : Mid m o kn) (hm : m < 256) (s : ByteArray) (hs : (labs s).2 = 0) : Mid (m + 1) (putP (labs s).1 o kn).1 (putP (labs s).1 o kn).2 := by
  have h1 := labels_facts s.data.toList
  have h2 := flat_short s.data.toList hs
  have h5 : (labs s).1.length ≤ 8 := h1.1
  have h6 : (flat (labs s).1).length ≤ 80 := h2
  obtain ⟨f1, f2, f3⟩ := putP_facts _ o kn (mid_inv h hm s hs)
  have h3 := h.out
  have h4 := h.known
  exact ⟨by omega, by omega, f3⟩
theorem rdOf_nat (l : List ByteArray) (i : Nat) (h : i < l.length) : rdOf ByteArray.empty l (i : Int) = l[i] := by
  unfold rdOf
  rw [Int.toNat_natCast, List.getD_eq_getElem?_getD, List.getElem?_eq_getElem h]
  rfl
theorem names_at (X : List ByteArray) (hX : X.length ≤ 256) : ∀ (d i : Nat) (o : List Int) (kn : List (ByteArray × Int)), i + d = X.length → Mid i o kn → firstCode (X.drop i) = 0 →
    Ev (fun k => patchbayref4_PackNames.l0 k (strOfNums o) (kn.map (·.1)) (kn.map (·.2)) X (X.length : Int) (i : Int)) (strOfNums (packP (X.drop i) o kn).1) := by
  intro d
  induction d with
  | zero =>
    intro i o kn hi h h0
    rw [List.drop_eq_nil_of_le (by omega), packP]
    refine Ev.step (fun k => ?_) (Ev.now _)
    rw [patchbayref4_PackNames.l0, if_neg (by omega)]
  | succ d ih =>
    intro i o kn hi h h0
    have hlt : i < X.length := by omega
    rw [List.drop_eq_getElem_cons hlt] at h0 ⊢
    rw [firstCode] at h0
    rw [packP]
    by_cases c : (labs X[i]).2 = 0
    · rw [if_pos c] at h0 ⊢
      have hI := mid_inv h (by omega) X[i] c
      have hn := ih (i + 1) _ _ (by omega) (mid_next h (by omega) X[i] c) h0
      refine Ev.step (f := fun k => (patchbayref4_LabelsOf.f k X[i]).bind fun t => patchbayref4_PackNames.l1 k (strOfNums o) (kn.map (·.1)) (kn.map (·.2)) t.1 false 0 X (X.length : Int) (i : Int)) (fun k => ?_) (Ev.bind (ref_of X[i]) ?_)
      · rw [patchbayref4_PackNames.l0, if_pos (by omega), if_pos (by omega), if_pos (by omega), rdOf_nat X i hlt]
      · refine l1_at (labs X[i]).1 hI.few (labs X[i]).1 0 o kn rfl hI ?_
        have e3 : wrap64 ((i : Int) + 1) = ((i + 1 : Nat) : Int) := by rw [w64b (by omega) (by omega)]; omega
        rw [e3]
        exact hn
    · rw [if_neg c] at h0; exact absurd h0 c
theorem putP_mono : ∀ (l : List (List UInt8)) (o : List Int) (kn : List (ByteArray × Int)), o.length ≤ (putP l o kn).1.length := by
  intro l
  induction l with
  | nil => intro o kn; rw [putP]; simp
  | cons x r ih =>
    intro o kn
    rw [putP]
    split
    · simp
    · refine Nat.le_trans ?_ (ih _ _)
      simp only [List.length_append]
      omega
theorem putM_mono : ∀ (l : List ByteArray) (o : List Int) (kn : List (ByteArray × Int)) (q : List Int × List (ByteArray × Int)), putM l o kn = some q → o.length ≤ q.1.length := by
  intro l
  induction l with
  | nil =>
    intro o kn q h
    rw [putM] at h
    by_cases c : o.length < 100000000
    · rw [if_pos c] at h; injection h with h; rw [← h]; simp
    · rw [if_neg c] at h; cases h
  | cons x r ih =>
    intro o kn q h
    rw [putM] at h
    by_cases c : o.length + x.size < 100000000 ∧ kn.length < 100000000
    · rw [if_pos c] at h
      obtain ⟨nm, _, h⟩ := Option.bind_eq_some_iff.mp h
      by_cases c2 : nm.size ≤ 100000000
      · rw [if_pos c2] at h
        cases hk : Lp.look kn nm with
        | some a => rw [hk] at h; simp only [] at h; injection h with h; rw [← h]; simp
        | none =>
          rw [hk] at h
          simp only [] at h
          have := ih _ _ _ h
          simp only [List.length_append] at this
          omega
      · rw [if_neg c2] at h; cases h
    · rw [if_neg c] at h; cases h
theorem packP_mono : ∀ (l : List ByteArray) (o : List Int) (kn : List (ByteArray × Int)), firstCode l = 0 → o.length ≤ (packP l o kn).1.length := by
  intro l
  induction l with
  | nil => intro o kn _; rw [packP]; exact Nat.le_refl _
  | cons s r ih =>
    intro o kn h
    rw [firstCode] at h
    rw [packP]
    by_cases c : (labs s).2 = 0
    · rw [if_pos c] at h ⊢
      exact Nat.le_trans (putP_mono _ _ _) (ih _ _ h)
    · rw [if_neg c] at h; exact absurd h c
theorem packM_mono (k : Nat) : ∀ (l : List ByteArray) (o : List Int) (kn : List (ByteArray × Int)) (q : List Int × Int), packM k l o kn = some q → q.2 = 0 → o.length ≤ q.1.length := by
  intro l
  induction l with
  | nil => intro o kn q h _; rw [packM] at h; injection h with h; rw [← h]; exact Nat.le_refl _
  | cons s r ih =>
    intro o kn q h h0
    rw [packM] at h
    obtain ⟨t, _, h⟩ := Option.bind_eq_some_iff.mp h
    by_cases c : t.2 = 0
    · rw [if_pos c] at h
      by_cases c2 : t.1.length < 100000000
      · rw [if_pos c2] at h
        obtain ⟨q2, h2, h⟩ := Option.bind_eq_some_iff.mp h
        exact Nat.le_trans (putM_mono _ _ _ _ h2) (ih _ _ _ h h0)
      · rw [if_neg c2] at h; cases h
    · rw [if_neg c] at h
      injection h with h
      rw [← h] at h0
      exact absurd h0 c
theorem putP_strong : ∀ (l : List (List UInt8)) (o : List Int) (kn : List (ByteArray × Int)), o.length + (flat l).length ≤ 4000 → (∀ p ∈ kn, p.2 ≤ 4000) → ∀ p ∈ (putP l o kn).2, p.2 ≤ 4000 := by
  intro l
  induction l with
  | nil => intro o kn _ h; rw [putP]; exact h
  | cons x r ih =>
    intro o kn h ho
    rw [flat_cons] at h
    simp only [List.length_append, List.length_cons] at h
    rw [putP]
    split
    · exact ho
    · refine ih _ _ ?_ ?_
      · simp only [List.length_append, List.length_cons, List.length_nil, bytesOf_length, mk_size]
        omega
      · intro p hp
        rcases List.mem_append.1 hp with hp | hp
        · exact ho p hp
        · rw [List.mem_singleton] at hp
          subst hp
          simp only []
          omega
/-- While the output is short, the program's packing is the model's. -/
theorem pack_exact (k : Nat) (hk : 200 ≤ k) : ∀ (l : List ByteArray) (m : Nat) (o : List Int) (kn : List (ByteArray × Int)), m + l.length ≤ 256 → Mid m o kn → (∀ p ∈ kn, p.2 ≤ 4000) → firstCode l = 0 → o.length ≤ 600 →
    ((packP l o kn).1.length ≤ 600 ∨ ∃ q, packM k l o kn = some q ∧ q.2 = 0 ∧ q.1.length ≤ 600) → packM k l o kn = some (packP l o kn) := by
  intro l
  induction l with
  | nil => intro m o kn hm h _ _ _ _; rw [packM, packP]
  | cons s r ih =>
    intro m o kn hm h hst h0 hl hd
    simp only [List.length_cons] at hm
    rw [firstCode] at h0
    by_cases c : (labs s).2 = 0
    · have hI := mid_inv h (by omega) s c
      have hfl : (flat (labs s).1).length ≤ 80 := flat_short s.data.toList c
      have e : packM k (s :: r) o kn = packM k r (putP (labs s).1 o kn).1 (putP (labs s).1 o kn).2 := by
        rw [packM, labels_of s k hk, Option.bind_some, if_pos (show (List.map mk (labs s).1, (labs s).2).2 = 0 from c), if_pos (by rw [List.length_map]; have := hI.few; omega), put_at _ o kn hI (by omega) hst, Option.bind_some]
      rw [if_pos c] at h0
      rw [e] at hd ⊢
      rw [packP, if_pos c] at hd ⊢
      refine ih (m + 1) _ _ (by omega) (mid_next h (by omega) s c) (putP_strong _ o kn (by omega) hst) h0 ?_ hd
      rcases hd with hd | ⟨q, hq, hq0, hql⟩
      · exact Nat.le_trans (packP_mono _ _ _ h0) hd
      · exact Nat.le_trans (packM_mono k _ _ _ q hq hq0) hql
    · rw [if_neg c] at h0; exact absurd h0 c
theorem put_weak : ∀ (l : List (List UInt8)) (o : List Int) (kn : List (ByteArray × Int)), Inv l o kn → ∃ q, putM (l.map mk) o kn = some q ∧ q.1.length ≤ o.length + (flat l).length + 2 ∧ q.2.length ≤ kn.length + l.length := by
  intro l
  induction l with
  | nil =>
    intro o kn h
    have := h.out
    rw [List.map_nil, putM, if_pos (by omega)]
    exact ⟨_, rfl, by simp [flat], by simp⟩
  | cons x r ih =>
    intro o kn h
    have h3 := h.out
    rw [flat_cons] at h3
    simp only [List.length_append, List.length_cons] at h3
    have h4 := h.known
    have hj := join_at (x :: r) (by have := h.few; omega) h.each
    have hn : (nameL (x :: r)).length ≤ 100000 := by
      unfold nameL
      rw [if_neg (by simp), flat_cons]
      simp only [List.length_append, List.length_cons]
      omega
    rw [List.map_cons] at hj ⊢
    rw [putM, if_pos ⟨by rw [mk_size]; omega, by omega⟩, hj, Option.bind_some, if_pos (by rw [mk_size]; omega)]
    cases hk : Lp.look kn (mk (nameL (x :: r))) with
    | some a => exact ⟨_, rfl, by simp, by simp⟩
    | none =>
      simp only []
      obtain ⟨h1, h2, h5, h6, h7⟩ := h
      simp only [List.length_cons] at h1 h6
      obtain ⟨q, e1, e2, e3⟩ := ih (o ++ [((mk x).size : Int) % 256] ++ bytesOf (mk x)) (kn ++ [(mk (nameL (x :: r)), max 0 (min (o.length : Int) 16383))]) ⟨by omega, fun s hs => h2 s (List.mem_cons_of_mem _ hs), by simp only [List.length_append, List.length_cons, List.length_nil, bytesOf_length, mk_size]; omega, by simp only [List.length_append, List.length_cons, List.length_nil]; omega, by
        intro p hp
        rcases List.mem_append.1 hp with hp | hp
        · exact h7 p hp
        · rw [List.mem_singleton] at hp
          subst hp
          simp only []
          omega⟩
      refine ⟨q, e1, ?_, ?_⟩
      · rw [flat_cons]
        simp only [List.length_append, List.length_cons, List.length_nil, bytesOf_length, mk_size] at e2 ⊢
        omega
      · simp only [List.length_append, List.length_cons, List.length_nil] at e3 ⊢
        omega
theorem putM_offs : ∀ (l : List ByteArray) (o : List Int) (kn : List (ByteArray × Int)) (q : List Int × List (ByteArray × Int)), (∀ p ∈ kn, 0 ≤ p.2 ∧ p.2 ≤ 100000) → putM l o kn = some q → ∀ p ∈ q.2, 0 ≤ p.2 ∧ p.2 ≤ 100000 := by
  intro l
  induction l with
  | nil =>
    intro o kn q hn h
    rw [putM] at h
    by_cases c : o.length < 100000000
    · rw [if_pos c] at h; injection h with h; rw [← h]; exact hn
    · rw [if_neg c] at h; cases h
  | cons x r ih =>
    intro o kn q hn h
    rw [putM] at h
    by_cases c : o.length + x.size < 100000000 ∧ kn.length < 100000000
    · rw [if_pos c] at h
      obtain ⟨nm, _, h⟩ := Option.bind_eq_some_iff.mp h
      by_cases c2 : nm.size ≤ 100000000
      · rw [if_pos c2] at h
        cases hk : Lp.look kn nm with
        | some a => rw [hk] at h; simp only [] at h; injection h with h; rw [← h]; exact hn
        | none =>
          rw [hk] at h
          simp only [] at h
          refine ih _ _ _ (fun p hp => ?_) h
          rcases List.mem_append.1 hp with hp | hp
          · exact hn p hp
          · rw [List.mem_singleton] at hp
            subst hp
            simp only []
            omega
      · rw [if_neg c2] at h; cases h
    · rw [if_neg c] at h; cases h
theorem pack_total (k : Nat) (hk : 200 ≤ k) : ∀ (l : List ByteArray) (m : Nat) (o : List Int) (kn : List (ByteArray × Int)), m + l.length ≤ 256 → Mid m o kn → ∃ q, packM k l o kn = some q ∧ q.2 = firstCode l := by
  intro l
  induction l with
  | nil => intro m o kn _ _; exact ⟨_, by rw [packM], rfl⟩
  | cons s r ih =>
    intro m o kn hm h
    simp only [List.length_cons] at hm
    rw [packM, firstCode, labels_of s k hk, Option.bind_some]
    by_cases c : (labs s).2 = 0
    · have hI := mid_inv h (by omega) s c
      have hfl : (flat (labs s).1).length ≤ 80 := flat_short s.data.toList c
      have h8 : (labs s).1.length ≤ 8 := (labels_facts s.data.toList).1
      obtain ⟨q, e1, e2, e3⟩ := put_weak _ o kn hI
      rw [if_pos c, if_pos (show (List.map mk (labs s).1, (labs s).2).2 = 0 from c), if_pos (by rw [List.length_map]; omega), e1, Option.bind_some]
      have h1 := h.out
      have h2 := h.known
      exact ih (m + 1) _ _ (by omega) ⟨by omega, by omega, putM_offs _ _ _ _ h.offs e1⟩
    · rw [if_neg c, if_neg (show ¬ (List.map mk (labs s).1, (labs s).2).2 = 0 from c)]
      exact ⟨_, rfl, rfl⟩
end Go.Proofs.YtbcocpaeehgmnaaDoor.Pure
