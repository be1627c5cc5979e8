/- Go's stable sort: one element goes into a sorted block. -/
import Derived.Test.YtkolbflmihfokaaSortC
namespace Go.Proofs.YtkolbflmihfokaaW.Sort
open Go.RowKit Go.Proofs.YtkolbflmihfokaaW.PrintWords

section
variable {α : Type} {lt : α → α → Bool} {z : α} {cmp : Nat → α → α → Option Int} {P : α → Prop}

/-- The first element moves behind C. -/
theorem syB_run : ∀ (C : List α) (p q : List α) (x : α) (e i : Int), (p ++ (x :: (C ++ q))).length ≤ 1000000000000 → i = (p.length : Int) → e = (p.length : Int) + (C.length : Int) + 1 →
    Ev (fun k => syB z cmp k (p ++ (x :: (C ++ q))) e i) (p ++ (C ++ (x :: q))) := by
  intro C
  induction C with
  | nil =>
    intro p q x e i hb hi he
    simp only [List.length_append, List.length_cons, List.length_nil] at hb he
    refine Ev.step (f := fun _ => some _) (fun k => ?_) (Ev.now _)
    simp only [syB]
    rw [wrap_small (by omega) (by omega), if_neg (by omega)]
    simp
  | cons y C ih =>
    intro p q x e i hb hi he
    have hr := ih (p ++ [y]) q x e (i + 1) (by simp only [List.length_append, List.length_cons, List.length_nil] at hb ⊢; omega) (by simp; omega) (by simp at he ⊢; omega)
    have hl : (p ++ (x :: ((y :: C) ++ q))).length = p.length + C.length + q.length + 2 := by simp; omega
    rw [hl] at hb
    simp only [List.length_cons] at he
    have w1 : wrap64 (e - 1) = e - 1 := wrap_small (by omega) (by omega)
    have w2 : wrap64 (i + 1) = i + 1 := wrap_small (by omega) (by omega)
    have g1 : rd z (p ++ (x :: ((y :: C) ++ q))) (i + 1) = y := by
      have := rd_at (z := z) (p := p ++ [x]) (q := C ++ q) (x := y) (i := i + 1) (by simp; omega)
      simpa using this
    have g2 : rd z (p ++ (x :: ((y :: C) ++ q))) i = x := rd_at hi
    have s1 : (p ++ (x :: ((y :: C) ++ q))).set i.toNat y = p ++ (y :: ((y :: C) ++ q)) := set_at (by omega)
    have s2 : (p ++ (y :: ((y :: C) ++ q))).set (i + 1).toNat x = p ++ (y :: ((x :: C) ++ q)) := by
      have := set_at (p := p ++ [y]) (q := C ++ q) (x := y) (y := x) (n := (i + 1).toNat) (by simp; omega)
      simpa using this
    refine Ev.step (f := fun k => syB z cmp k ((p ++ [y]) ++ (x :: (C ++ q))) e (i + 1)) (fun k => ?_) (by simpa using hr)
    simp only [syB]
    rw [w1, w2, hl, if_pos (by omega), if_pos (by omega), if_pos (by omega), if_pos (by omega), if_pos (by omega), g1, g2, s1, s2]
    simp

/-- The last element moves ahead of E. -/
theorem syD_run : ∀ (n : Nat) (E p q : List α) (x : α) (e i : Int), E.length = n → (p ++ (E ++ (x :: q))).length ≤ 1000000000000 → e = (p.length : Int) → i = (p.length : Int) + (E.length : Int) →
    Ev (fun k => syD z cmp k (p ++ (E ++ (x :: q))) e i) (p ++ (x :: (E ++ q))) := by
  intro n
  induction n with
  | zero =>
    intro E p q x e i hn hb he hi
    obtain rfl : E = [] := List.length_eq_zero_iff.1 hn
    refine Ev.step (f := fun _ => some _) (fun k => ?_) (Ev.now _)
    simp only [syD]
    rw [if_neg (by simp at hi; omega)]
    simp
  | succ n ih =>
    intro E p q x e i hn hb he hi
    rcases List.eq_nil_or_concat E with h0 | ⟨D, y, h0⟩
    · subst h0; simp at hn
    · rw [List.concat_eq_append] at h0
      subst h0
      have hr := ih D p (y :: q) x e (i - 1) (by simpa using hn) (by simp only [List.length_append, List.length_cons, List.length_nil] at hb ⊢; omega) he (by simp at hi; omega)
      have hl : (p ++ (D ++ [y] ++ (x :: q))).length = p.length + D.length + q.length + 2 := by simp; omega
      rw [hl] at hb
      simp only [List.length_append, List.length_cons, List.length_nil] at hi
      have w1 : wrap64 (i - 1) = i - 1 := wrap_small (by omega) (by omega)
      have g1 : rd z (p ++ (D ++ [y] ++ (x :: q))) (i - 1) = y := by
        have := rd_at (z := z) (p := p ++ D) (q := x :: q) (x := y) (i := i - 1) (by simp; omega)
        simpa using this
      have g2 : rd z (p ++ (D ++ [y] ++ (x :: q))) i = x := by
        have := rd_at (z := z) (p := p ++ (D ++ [y])) (q := q) (x := x) (i := i) (by simp; omega)
        simpa using this
      have s1 : (p ++ (D ++ [y] ++ (x :: q))).set i.toNat y = p ++ (D ++ [y] ++ (y :: q)) := by
        have := set_at (p := p ++ (D ++ [y])) (q := q) (x := x) (y := y) (n := i.toNat) (by simp; omega)
        simpa using this
      have s2 : (p ++ (D ++ [y] ++ (y :: q))).set (i - 1).toNat x = p ++ (D ++ (x :: (y :: q))) := by
        have := set_at (p := p ++ D) (q := y :: q) (x := y) (y := x) (n := (i - 1).toNat) (by simp; omega)
        simpa using this
      refine Ev.step (f := fun k => syD z cmp k (p ++ (D ++ (x :: (y :: q)))) e (i - 1)) (fun k => ?_) (by simpa using hr)
      simp only [syD]
      rw [w1, hl, if_pos (by omega), if_pos (by omega), if_pos (by omega), if_pos (by omega), if_pos (by omega), g1, g2, s1, s2]

theorem splitAt_ (D : List α) (h : 0 < D.length) : ∃ D1 e D2, D = D1 ++ (e :: D2) ∧ D1.length = D.length / 2 := by
  have hd : D.drop (D.length / 2) ≠ [] := fun h' => by
    have := congrArg List.length h'
    rw [List.length_drop, List.length_nil] at this
    omega
  obtain ⟨e, D2, h2⟩ := List.exists_cons_of_ne_nil hd
  exact ⟨D.take (D.length / 2), e, D2, by rw [← h2, List.take_append_drop], by rw [List.length_take]; omega⟩

variable (ho : Ord_ lt) (hc : Tells lt cmp P)
include ho hc

/-- The first element's place among those of a sorted block behind it. -/
theorem syA_run : ∀ (n : Nat) (C D E p q : List α) (x : α) (a i j : Int), D.length ≤ n → (p ++ (x :: (C ++ (D ++ (E ++ q))))).length ≤ 1000000000000 → P x → (∀ y, y ∈ D → P y) → a = (p.length : Int) → i = (p.length : Int) + 1 + (C.length : Int) → j = (p.length : Int) + 1 + (C.length : Int) + (D.length : Int) →
    Sorted lt (C ++ (D ++ E)) → (∀ y, y ∈ C → lt y x = true) → (∀ y, y ∈ E → lt y x = false) →
    ∃ S, Sorted lt S ∧ Stab lt (x :: (C ++ (D ++ E))) S ∧ Ev (fun k => syA z cmp k (p ++ (x :: (C ++ (D ++ (E ++ q))))) a i j) (p ++ (S ++ q)) := by
  intro n
  induction n with
  | zero =>
    intro C D E p q x a i j hn hb hx hp ha hi hj hs h1 h2
    obtain rfl : D = [] := List.length_eq_zero_iff.1 (by omega)
    simp only [List.nil_append] at hb hs ⊢
    refine ⟨C ++ (x :: E), Sorted.app hs.left (Sorted.cons hs.right h2) (fun u hu v hv => ?_), ?_, ?_⟩
    · rcases List.mem_cons.1 hv with rfl | hv
      · exact ho.asymm (h1 u hu)
      · exact hs.between hu hv
    · have := Stab.app (Stab.rot (lt := lt) ho (U := [x]) (V := C) (by simpa using h1)) (Stab.refl (lt := lt) E)
      simpa using this
    · have hr := syB_run (z := z) (cmp := cmp) C p (E ++ q) x i a (by simpa using hb) ha (by omega)
      refine Ev.step (f := fun k => syB z cmp k (p ++ (x :: (C ++ (E ++ q)))) i a) (fun k => ?_) (by simpa using hr)
      simp only [syA]
      rw [if_neg (by simp at hj; omega)]
  | succ n ih =>
    intro C D E p q x a i j hn hb hx hp ha hi hj hs h1 h2
    by_cases h0 : D.length = 0
    · obtain rfl : D = [] := List.length_eq_zero_iff.1 h0
      exact ih C [] E p q x a i j (Nat.zero_le _) hb hx hp ha hi hj hs h1 h2
    obtain ⟨D1, e, D2, hD, hD1⟩ := splitAt_ D (by omega)
    have hDl : D.length = D1.length + D2.length + 1 := by rw [hD]; simp; omega
    have hl : (p ++ (x :: (C ++ (D ++ (E ++ q))))).length = p.length + C.length + D.length + E.length + q.length + 1 := by simp; omega
    have hb2 := hb
    rw [hl] at hb
    have hh : half i j = i + (D1.length : Int) := by rw [half_eq (by omega) (by omega) (by omega) (by omega)]; omega
    have g1 : rd z (p ++ (x :: (C ++ (D ++ (E ++ q))))) (i + (D1.length : Int)) = e := by
      have := rd_at (z := z) (p := p ++ (x :: (C ++ D1))) (q := D2 ++ (E ++ q)) (x := e) (i := i + (D1.length : Int)) (by simp; omega)
      rw [hD]
      simpa using this
    have g2 : rd z (p ++ (x :: (C ++ (D ++ (E ++ q))))) a = x := rd_at ha
    have hpe : P e := hp e (by rw [hD]; simp)
    obtain ⟨t, ht, htl⟩ := hc e x hpe hx
    have hs1 : Sorted lt (D1 ++ (e :: D2)) := by have := hs.right.left; rwa [hD] at this
    have step : ∀ r, (t < 0 → Ev (fun k => syA z cmp k (p ++ (x :: (C ++ (D ++ (E ++ q))))) a (i + (D1.length : Int) + 1) j) r) → (¬ t < 0 → Ev (fun k => syA z cmp k (p ++ (x :: (C ++ (D ++ (E ++ q))))) a i (i + (D1.length : Int))) r) → Ev (fun k => syA z cmp k (p ++ (x :: (C ++ (D ++ (E ++ q))))) a i j) r := by
      intro r k1 k2
      refine Ev.step (f := fun k => (cmp k e x).bind fun t => if t < 0 then syA z cmp k (p ++ (x :: (C ++ (D ++ (E ++ q))))) a (i + (D1.length : Int) + 1) j else syA z cmp k (p ++ (x :: (C ++ (D ++ (E ++ q))))) a i (i + (D1.length : Int))) (fun k => ?_) (Ev.bind ht ?_)
      · simp only [syA]
        rw [hl, hh, wrap_small (x := i + (D1.length : Int) + 1) (by omega) (by omega), if_pos (by omega), if_pos (by omega), if_pos (by omega), if_pos (by omega), if_pos (by omega), g1, g2]
      · by_cases hti : t < 0
        · exact Ev.congr (fun k => by rw [if_pos hti]) (k1 hti)
        · exact Ev.congr (fun k => by rw [if_neg hti]) (k2 hti)
    by_cases hlt : lt e x = true
    · obtain ⟨S, s1, s2, s3⟩ := ih (C ++ (D1 ++ [e])) D2 E p q x a (i + (D1.length : Int) + 1) j (by omega) (by rw [hD] at hb2; simpa using hb2) hx (fun y hy => hp y (by rw [hD]; simp [hy])) ha (by simp; omega) (by simp; omega) (by rw [hD] at hs; simpa using hs)
        (fun y hy => by
          rcases List.mem_append.1 hy with hy | hy
          · exact h1 y hy
          · rcases List.mem_append.1 hy with hy | hy
            · cases hyx : lt y x with
              | true => rfl
              | false => exact absurd hlt (by rw [ho.ntr (hs1.between hy (List.mem_cons_self)) hyx]; simp)
            · obtain rfl : y = e := by simpa using hy
              exact hlt)
        h2
      refine ⟨S, s1, by rw [hD]; simpa using s2, step _ (fun _ => ?_) (fun hn => absurd (htl.2 hlt) hn)⟩
      rw [hD]
      simpa using s3
    · have hlt' : lt e x = false := by simpa using hlt
      obtain ⟨S, s1, s2, s3⟩ := ih C D1 (e :: (D2 ++ E)) p q x a i (i + (D1.length : Int)) (by omega) (by rw [hD] at hb2; simpa using hb2) hx (fun y hy => hp y (by rw [hD]; simp [hy])) ha hi (by omega) (by rw [hD] at hs; simpa using hs) h1
        (fun y hy => by
          rcases List.mem_cons.1 hy with rfl | hy
          · exact hlt'
          · rcases List.mem_append.1 hy with hy | hy
            · exact ho.ntr (hs1.right.head hy) hlt'
            · exact h2 y hy)
      refine ⟨S, s1, by rw [hD]; simpa using s2, step _ (fun h => absurd (htl.1 h) hlt) (fun _ => ?_)⟩
      rw [hD]
      simpa using s3

/-- The last element's place among those of a sorted block ahead of it. -/
theorem syC_run : ∀ (n : Nat) (C D E p q : List α) (x : α) (m i j : Int), D.length ≤ n → (p ++ (C ++ (D ++ (E ++ (x :: q))))).length ≤ 1000000000000 → P x → (∀ y, y ∈ D → P y) → m = (p.length : Int) + (C.length : Int) + (D.length : Int) + (E.length : Int) → i = (p.length : Int) + (C.length : Int) → j = (p.length : Int) + (C.length : Int) + (D.length : Int) →
    Sorted lt (C ++ (D ++ E)) → (∀ y, y ∈ C → lt x y = false) → (∀ y, y ∈ E → lt x y = true) →
    ∃ S, Sorted lt S ∧ Stab lt (C ++ (D ++ (E ++ [x]))) S ∧ Ev (fun k => syC z cmp k (p ++ (C ++ (D ++ (E ++ (x :: q))))) m i j) (p ++ (S ++ q)) := by
  intro n
  induction n with
  | zero =>
    intro C D E p q x m i j hn hb hx hp hm hi hj hs h1 h2
    obtain rfl : D = [] := List.length_eq_zero_iff.1 (by omega)
    simp only [List.nil_append, List.length_nil] at hb hs hm ⊢
    refine ⟨C ++ (x :: E), Sorted.app hs.left (Sorted.cons hs.right (fun y hy => ho.asymm (h2 y hy))) (fun u hu v hv => ?_), ?_, ?_⟩
    · rcases List.mem_cons.1 hv with rfl | hv
      · exact h1 u hu
      · exact hs.between hu hv
    · exact Stab.app (Stab.refl (lt := lt) C) (Stab.rot (lt := lt) ho (U := E) (V := [x]) (fun u hu v hv => by rw [List.mem_singleton.1 hv]; exact h2 u hu))
    · have hr := syD_run (z := z) (cmp := cmp) E.length E (p ++ C) q x i m rfl (by simpa using hb) (by simp; omega) (by simp; omega)
      refine Ev.step (f := fun k => syD z cmp k (p ++ (C ++ (E ++ (x :: q)))) i m) (fun k => ?_) (by simpa using hr)
      simp only [syC]
      rw [if_neg (by simp at hj; omega)]
  | succ n ih =>
    intro C D E p q x m i j hn hb hx hp hm hi hj hs h1 h2
    by_cases h0 : D.length = 0
    · obtain rfl : D = [] := List.length_eq_zero_iff.1 h0
      exact ih C [] E p q x m i j (Nat.zero_le _) hb hx hp hm hi hj hs h1 h2
    obtain ⟨D1, e, D2, hD, hD1⟩ := splitAt_ D (by omega)
    have hDl : D.length = D1.length + D2.length + 1 := by rw [hD]; simp; omega
    have hl : (p ++ (C ++ (D ++ (E ++ (x :: q))))).length = p.length + C.length + D.length + E.length + q.length + 1 := by simp; omega
    have hb2 := hb
    rw [hl] at hb
    have hh : half i j = i + (D1.length : Int) := by rw [half_eq (by omega) (by omega) (by omega) (by omega)]; omega
    have g1 : rd z (p ++ (C ++ (D ++ (E ++ (x :: q))))) (i + (D1.length : Int)) = e := by
      have := rd_at (z := z) (p := p ++ (C ++ D1)) (q := D2 ++ (E ++ (x :: q))) (x := e) (i := i + (D1.length : Int)) (by simp; omega)
      rw [hD]
      simpa using this
    have g2 : rd z (p ++ (C ++ (D ++ (E ++ (x :: q))))) m = x := by
      have := rd_at (z := z) (p := p ++ (C ++ (D ++ E))) (q := q) (x := x) (i := m) (by simp; omega)
      simpa using this
    have hpe : P e := hp e (by rw [hD]; simp)
    obtain ⟨t, ht, htl⟩ := hc x e hx hpe
    have hs1 : Sorted lt (D1 ++ (e :: D2)) := by have := hs.right.left; rwa [hD] at this
    have step : ∀ r, (t < 0 → Ev (fun k => syC z cmp k (p ++ (C ++ (D ++ (E ++ (x :: q))))) m i (i + (D1.length : Int))) r) → (¬ t < 0 → Ev (fun k => syC z cmp k (p ++ (C ++ (D ++ (E ++ (x :: q))))) m (i + (D1.length : Int) + 1) j) r) → Ev (fun k => syC z cmp k (p ++ (C ++ (D ++ (E ++ (x :: q))))) m i j) r := by
      intro r k1 k2
      refine Ev.step (f := fun k => (cmp k x e).bind fun t => if t < 0 then syC z cmp k (p ++ (C ++ (D ++ (E ++ (x :: q))))) m i (i + (D1.length : Int)) else syC z cmp k (p ++ (C ++ (D ++ (E ++ (x :: q))))) m (i + (D1.length : Int) + 1) j) (fun k => ?_) (Ev.bind ht ?_)
      · simp only [syC]
        rw [hl, hh, wrap_small (x := i + (D1.length : Int) + 1) (by omega) (by omega), if_pos (by omega), if_pos (by omega), if_pos (by omega), if_pos (by omega), if_pos (by omega), g1, g2]
      · by_cases hti : t < 0
        · exact Ev.congr (fun k => by rw [if_pos hti]) (k1 hti)
        · exact Ev.congr (fun k => by rw [if_neg hti]) (k2 hti)
    by_cases hlt : lt x e = true
    · obtain ⟨S, s1, s2, s3⟩ := ih C D1 (e :: (D2 ++ E)) p q x m i (i + (D1.length : Int)) (by omega) (by rw [hD] at hb2; simpa using hb2) hx (fun y hy => hp y (by rw [hD]; simp [hy])) (by simp; omega) hi (by omega) (by rw [hD] at hs; simpa using hs) h1
        (fun y hy => by
          rcases List.mem_cons.1 hy with rfl | hy
          · exact hlt
          · rcases List.mem_append.1 hy with hy | hy
            · cases hyx : lt x y with
              | true => rfl
              | false => exact absurd hlt (by rw [ho.ntr hyx (hs1.right.head hy)]; simp)
            · exact h2 y hy)
      refine ⟨S, s1, by rw [hD]; simpa using s2, step _ (fun _ => ?_) (fun hn => absurd (htl.2 hlt) hn)⟩
      rw [hD]
      simpa using s3
    · have hlt' : lt x e = false := by simpa using hlt
      obtain ⟨S, s1, s2, s3⟩ := ih (C ++ (D1 ++ [e])) D2 E p q x m (i + (D1.length : Int) + 1) j (by omega) (by rw [hD] at hb2; simpa using hb2) hx (fun y hy => hp y (by rw [hD]; simp [hy])) (by simp; omega) (by simp; omega) (by simp; omega) (by rw [hD] at hs; simpa using hs)
        (fun y hy => by
          rcases List.mem_append.1 hy with hy | hy
          · exact h1 y hy
          · rcases List.mem_append.1 hy with hy | hy
            · exact ho.ntr hlt' (hs1.between hy (List.mem_cons_self))
            · obtain rfl : y = e := by simpa using hy
              exact hlt')
        h2
      refine ⟨S, s1, by rw [hD]; simpa using s2, step _ (fun h => absurd (htl.1 h) hlt) (fun _ => ?_)⟩
      rw [hD]
      simpa using s3
end
end Go.Proofs.YtkolbflmihfokaaW.Sort
