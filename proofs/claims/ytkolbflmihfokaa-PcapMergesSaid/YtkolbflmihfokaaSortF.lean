/- Go's stable sort, whole: the elements in order, equal ones as they stood. -/
import Derived.Test.YtkolbflmihfokaaSortE
namespace Go.Proofs.YtkolbflmihfokaaW.Sort
open Go.RowKit Go.Proofs.YtkolbflmihfokaaW.PrintWords

section
variable {α : Type} {lt : α → α → Bool} {z : α} {cmp : Nat → α → α → Option Int} {P : α → Prop}

/-- Sorted in blocks of some length. -/
def Blk (lt : α → α → Bool) (n : Nat) (L : List α) : Prop := ∃ (Bs : List (List α)) (last : List α), L = Bs.flatten ++ last ∧ (∀ B, B ∈ Bs → B.length = n ∧ Sorted lt B) ∧ last.length ≤ n ∧ Sorted lt last
theorem Blk.last {n : Nat} {L : List α} (h : L.length ≤ n) (hs : Sorted lt L) : Blk lt n L := ⟨[], L, by simp, (fun _ h => by cases h), h, hs⟩
theorem Blk.cons {n : Nat} {B L : List α} (hb : B.length = n) (hs : Sorted lt B) (h : Blk lt n L) : Blk lt n (B ++ L) := by
  obtain ⟨Bs, l, rfl, h1, h2, h3⟩ := h
  refine ⟨B :: Bs, l, by simp, fun C hC => ?_, h2, h3⟩
  rcases List.mem_cons.1 hC with rfl | hC
  · exact ⟨hb, hs⟩
  · exact h1 C hC
theorem Blk.parts {n : Nat} {L : List α} (h : Blk lt n L) : (L.length ≤ n ∧ Sorted lt L) ∨ ∃ B L', L = B ++ L' ∧ B.length = n ∧ Sorted lt B ∧ Blk lt n L' := by
  obtain ⟨Bs, l, rfl, h1, h2, h3⟩ := h
  cases Bs with
  | nil => exact .inl ⟨by simpa using h2, by simpa using h3⟩
  | cons B Bs =>
    obtain ⟨a, b⟩ := h1 B (List.mem_cons_self)
    exact .inr ⟨B, Bs.flatten ++ l, by simp, a, b, Bs, l, rfl, fun C hC => h1 C (List.mem_cons_of_mem _ hC), h2, h3⟩
theorem Blk.one {n : Nat} {L : List α} (h : Blk lt n L) (hl : L.length ≤ n) : Sorted lt L := by
  rcases h.parts with h | ⟨B, L', rfl, h1, h2, _⟩
  · exact h.2
  · have : L'.length = 0 := by simp at hl; omega
    rw [List.length_eq_zero_iff.1 this]
    simpa using h2
theorem Blk.more {n : Nat} {L : List α} (h : Blk lt n L) (hl : n < L.length) : ∃ B L', L = B ++ L' ∧ B.length = n ∧ Sorted lt B ∧ Blk lt n L' := by
  rcases h.parts with h | h
  · omega
  · exact h

variable (ho : Ord_ lt) (hc : Tells lt cmp P)
include ho hc

theorem stA_run : ∀ (n : Nat) (rest D : List α) (a b N : Int), rest.length ≤ n → (D ++ rest).length ≤ 1000000000000 → (∀ y, y ∈ D ++ rest → P y) → a = (D.length : Int) → b = (D.length : Int) + 20 → N = (D.length : Int) + (rest.length : Int) →
    ∃ rest', Blk lt 20 rest' ∧ Stab lt rest rest' ∧ ∀ res, Ev (fun k => stB z cmp k (D ++ rest') N 20) res → Ev (fun k => stA z cmp k (D ++ rest) N 20 a b) res := by
  intro n
  induction n with
  | zero =>
    intro rest D a b N hn hb hP ha hbb hN
    obtain rfl : rest = [] := List.length_eq_zero_iff.1 (by omega)
    refine ⟨[], Blk.last (by simp) Sorted.nil, Stab.refl _, fun res hres => ?_⟩
    obtain ⟨S, s1, s2, s3⟩ := ins_run (z := z) ho hc [] D [] a N (by simpa using hb) (fun y hy => by cases hy) ha (by simpa using hN)
    obtain rfl : S = [] := List.length_eq_zero_iff.1 (by rw [s2.len]; rfl)
    refine Ev.step (f := fun k => (insA z cmp k (D ++ []) a N (wrap64 (a + 1))).bind fun t => stB z cmp k t N 20) (fun k => ?_) (Ev.bind (a := D ++ []) (f := fun k t => stB z cmp k t N 20) (by simpa using s3) hres)
    simp only [stA]
    rw [if_neg (by simp at hN; omega)]
  | succ n ih =>
    intro rest D a b N hn hb hP ha hbb hN
    simp only [List.length_append] at hb
    by_cases hl : b ≤ N
    · obtain ⟨B, hB⟩ : ∃ x, x = rest.take 20 := ⟨_, rfl⟩
      obtain ⟨rest2, hr2⟩ : ∃ x, x = rest.drop 20 := ⟨_, rfl⟩
      have e : rest = B ++ rest2 := by rw [hB, hr2, List.take_append_drop]
      have lB : B.length = 20 := by rw [hB, List.length_take]; omega
      have lr : rest.length = B.length + rest2.length := by rw [e]; simp
      clear hB hr2
      obtain ⟨S, s1, s2, s3⟩ := ins_run (z := z) ho hc B D rest2 a b (by simp; omega) (fun y hy => hP y (by rw [e]; simp [hy])) ha (by omega)
      have lS : S.length = 20 := by rw [s2.len, lB]
      obtain ⟨R, r1, r2, r3⟩ := ih rest2 (D ++ S) b (b + 20) N (by omega) (by simp; omega)
        (fun y hy => hP y (by
          rw [e]
          simp only [List.mem_append] at hy ⊢
          rcases hy with (h | h) | h
          · exact .inl h
          · exact .inr (.inl (s2.mem.1 h))
          · exact .inr (.inr h))) (by simp; omega) (by simp; omega) (by simp; omega)
      refine ⟨S ++ R, Blk.cons lS s1 r1, by rw [e]; exact Stab.app s2 r2, fun res hres => ?_⟩
      refine Ev.step (f := fun k => (insA z cmp k (D ++ rest) a b (wrap64 (a + 1))).bind fun t => stA z cmp k t N 20 b (b + 20)) (fun k => ?_) (Ev.bind (a := (D ++ S) ++ rest2) (f := fun k t => stA z cmp k t N 20 b (b + 20)) (by rw [e]; simpa using s3) (r3 res (by simpa using hres)))
      simp only [stA]
      rw [if_pos hl, wrap_small (x := b + 20) (by omega) (by omega)]
    · obtain ⟨S, s1, s2, s3⟩ := ins_run (z := z) ho hc rest D [] a N (by simp; omega) (fun y hy => hP y (by simp [hy])) ha hN
      refine ⟨S, Blk.last (by rw [s2.len]; omega) s1, s2, fun res hres => ?_⟩
      refine Ev.step (f := fun k => (insA z cmp k (D ++ rest) a N (wrap64 (a + 1))).bind fun t => stB z cmp k t N 20) (fun k => ?_) (Ev.bind (a := D ++ S) (f := fun k t => stB z cmp k t N 20) (by simpa using s3) hres)
      simp only [stA]
      rw [if_neg hl]

theorem stC_run (bs : Nat) (hbs : 1 ≤ bs) (hbs2 : bs ≤ 1000000000000) : ∀ (n : Nat) (rest D : List α) (a b N : Int), rest.length ≤ n → (D ++ rest).length ≤ 1000000000000 → (∀ y, y ∈ D ++ rest → P y) → Blk lt bs rest → a = (D.length : Int) → b = (D.length : Int) + 2 * (bs : Int) → N = (D.length : Int) + (rest.length : Int) →
    ∃ rest', Blk lt (2 * bs) rest' ∧ Stab lt rest rest' ∧ ∀ res, Ev (fun k => stB z cmp k (D ++ rest') N ((2 * bs : Nat) : Int)) res → Ev (fun k => stC z cmp k (D ++ rest) N (bs : Int) a b) res := by
  intro n
  induction n with
  | zero =>
    intro rest D a b N hn hb hP hB ha hbb hN
    obtain rfl : rest = [] := List.length_eq_zero_iff.1 (by omega)
    refine ⟨[], Blk.last (by simp) Sorted.nil, Stab.refl _, fun res hres => Ev.step (fun k => ?_) hres⟩
    simp only [List.length_append, List.length_nil] at hb hN
    simp only [stC]
    rw [if_neg (by omega), wrap_small (x := a + (bs : Int)) (by omega) (by omega), if_neg (by omega), wrap_small (x := (bs : Int) * 2) (by omega) (by omega), show (bs : Int) * 2 = ((2 * bs : Nat) : Int) by omega]
  | succ n ih =>
    intro rest D a b N hn hb hP hB ha hbb hN
    simp only [List.length_append] at hb
    have wx : wrap64 ((bs : Int) * 2) = ((2 * bs : Nat) : Int) := by rw [wrap_small (by omega) (by omega)]; omega
    have wy : wrap64 (2 * (bs : Int)) = ((2 * bs : Nat) : Int) := by rw [wrap_small (by omega) (by omega)]; omega
    have wa : wrap64 (a + (bs : Int)) = a + (bs : Int) := wrap_small (by omega) (by omega)
    by_cases hl : b ≤ N
    · obtain ⟨B1, R1, e1, l1, q1, k1⟩ := hB.more (by omega)
      have lr1 : rest.length = B1.length + R1.length := by rw [e1]; simp
      have hz : ∃ B2 R2, R1 = B2 ++ R2 ∧ B2.length = bs ∧ Sorted lt B2 ∧ Blk lt bs R2 := by
        rcases k1.parts with h | h
        · exact ⟨R1, [], by simp, by omega, h.2, Blk.last (by simp) Sorted.nil⟩
        · exact h
      obtain ⟨B2, R2, e2, l2, q2, k2⟩ := hz
      have lr2 : R1.length = B2.length + R2.length := by rw [e2]; simp
      have e : rest = B1 ++ (B2 ++ R2) := by rw [e1, e2]
      obtain ⟨S, s1, s2, s3⟩ := sym_run (z := z) ho hc (B1.length + B2.length) B1 B2 D R2 a (a + (bs : Int)) b (Nat.le_refl _) (List.length_pos_iff.1 (by omega)) (List.length_pos_iff.1 (by omega)) (by simp; omega) (fun y hy => hP y (by rw [e]; simpa using hy)) ha (by omega) (by omega) q1 q2
      have lS : S.length = B1.length + B2.length := by rw [s2.len]; simp
      obtain ⟨R, r1, r2, r3⟩ := ih R2 (D ++ S) b (b + 2 * (bs : Int)) N (by omega) (by simp; omega)
        (fun y hy => hP y (by
          rw [e]
          simp only [List.mem_append] at hy ⊢
          rcases hy with (h | h) | h
          · exact .inl h
          · have := s2.mem.1 h
            rw [List.mem_append] at this
            rcases this with h | h
            · exact .inr (.inl h)
            · exact .inr (.inr (.inl h))
          · exact .inr (.inr (.inr h)))) k2 (by simp; omega) (by simp; omega) (by simp; omega)
      refine ⟨S ++ R, Blk.cons (by omega) s1 r1, ?_, fun res hres => ?_⟩
      · have := Stab.app s2 r2
        rw [e]
        simpa using this
      · refine Ev.step (f := fun k => (sym z cmp k (D ++ rest) a (a + (bs : Int)) b).bind fun t => stC z cmp k t N (bs : Int) b (b + 2 * (bs : Int))) (fun k => ?_) (Ev.bind (a := (D ++ S) ++ R2) (f := fun k t => stC z cmp k t N (bs : Int) b (b + 2 * (bs : Int))) (by rw [e]; simpa using s3) (r3 res (by simpa using hres)))
        simp only [stC]
        rw [if_pos hl, wa, wy, show ((2 * bs : Nat) : Int) = 2 * (bs : Int) by omega, wrap_small (x := b + 2 * (bs : Int)) (by omega) (by omega)]
    · by_cases hm : a + (bs : Int) < N
      · obtain ⟨B1, R1, e1, l1, q1, k1⟩ := hB.more (by omega)
        have lr1 : rest.length = B1.length + R1.length := by rw [e1]; simp
        have q2 : Sorted lt R1 := k1.one (by omega)
        obtain ⟨S, s1, s2, s3⟩ := sym_run (z := z) ho hc (B1.length + R1.length) B1 R1 D [] a (a + (bs : Int)) N (Nat.le_refl _) (List.length_pos_iff.1 (by omega)) (List.length_pos_iff.1 (by omega)) (by simp; omega) (fun y hy => hP y (by rw [e1]; simpa using hy)) ha (by omega) (by omega) q1 q2
        have lS : S.length = B1.length + R1.length := by rw [s2.len]; simp
        refine ⟨S, Blk.last (by omega) s1, by rw [e1]; exact s2, fun res hres => ?_⟩
        refine Ev.step (f := fun k => (sym z cmp k (D ++ rest) a (a + (bs : Int)) N).bind fun t => stB z cmp k t N ((2 * bs : Nat) : Int)) (fun k => ?_) (Ev.bind (a := D ++ S) (f := fun k t => stB z cmp k t N ((2 * bs : Nat) : Int)) (by rw [e1]; simpa using s3) hres)
        simp only [stC]
        rw [if_neg hl, wa, if_pos hm, wx]
      · refine ⟨rest, Blk.last (by omega) (hB.one (by omega)), Stab.refl _, fun res hres => Ev.step (fun k => ?_) hres⟩
        simp only [stC]
        rw [if_neg hl, wa, if_neg hm, wx]

theorem stB_run : ∀ (n : Nat) (L : List α) (bs : Nat), L.length ≤ bs + n → 1 ≤ bs → L.length ≤ 1000000000000 → (∀ y, y ∈ L → P y) → Blk lt bs L → ∃ R, Sorted lt R ∧ Stab lt L R ∧ Ev (fun k => stB z cmp k L (L.length : Int) (bs : Int)) R := by
  intro n
  induction n with
  | zero =>
    intro L bs h1 h2 h3 hP h4
    refine ⟨L, h4.one (by omega), Stab.refl _, Ev.step (f := fun _ => some L) (fun k => ?_) (Ev.now _)⟩
    simp only [stB]
    rw [if_neg (by omega)]
  | succ n ih =>
    intro L bs h1 h2 h3 hP h4
    by_cases c : bs < L.length
    · obtain ⟨L', r1, r2, r3⟩ := stC_run (z := z) ho hc bs h2 (by omega) L.length L [] 0 (2 * (bs : Int)) (L.length : Int) (Nat.le_refl _) (by simpa using h3) (by simpa using hP) h4 rfl (by simp) (by simp)
      obtain ⟨R, t1, t2, t3⟩ := ih L' (2 * bs) (by rw [r2.len]; omega) (by omega) (by rw [r2.len]; exact h3) (fun y hy => hP y (r2.mem.1 hy)) r1
      refine ⟨R, t1, Stab.trans r2 t2, Ev.step (fun k => ?_) (r3 R (by rw [r2.len] at t3; simpa using t3))⟩
      simp only [stB]
      rw [if_pos (by omega), wrap_small (x := 2 * (bs : Int)) (by omega) (by omega)]
      simp
    · refine ⟨L, h4.one (by omega), Stab.refl _, Ev.step (f := fun _ => some L) (fun k => ?_) (Ev.now _)⟩
      simp only [stB]
      rw [if_neg (by omega)]

/-- The whole sort. -/
theorem stable_run (L : List α) (h : L.length ≤ 1000000000000) (hP : ∀ y, y ∈ L → P y) : ∃ R, Sorted lt R ∧ Stab lt L R ∧ Ev (fun k => stA z cmp k L (L.length : Int) 20 0 20) R := by
  obtain ⟨L', r1, r2, r3⟩ := stA_run (z := z) ho hc L.length L [] 0 20 (L.length : Int) (Nat.le_refl _) (by simpa using h) (by simpa using hP) rfl (by simp) (by simp)
  obtain ⟨R, t1, t2, t3⟩ := stB_run (z := z) ho hc L'.length L' 20 (by omega) (by omega) (by rw [r2.len]; exact h) (fun y hy => hP y (r2.mem.1 hy)) r1
  exact ⟨R, t1, Stab.trans r2 t2, by simpa using r3 R (by rw [r2.len] at t3; simpa using t3)⟩
end
end Go.Proofs.YtkolbflmihfokaaW.Sort
