/- Go's stable sort: blocks that change places. -/
import Derived.Test.YtkolbflmihfokaaSortB
namespace Go.Proofs.YtkolbflmihfokaaW.Sort
open Go.RowKit Go.Proofs.YtkolbflmihfokaaW.PrintWords

section
variable {α : Type} {z : α}

theorem swp_run : ∀ (A2 B2 A1 B1 p m q : List α) (x1 x2 x3 i : Int), A2.length = B2.length → A1.length = B1.length → (p ++ (B1 ++ (A2 ++ (m ++ (A1 ++ (B2 ++ q)))))).length ≤ 1000000000000 →
    x1 = (p.length : Int) → x2 = (p.length : Int) + (B1.length : Int) + (A2.length : Int) + (m.length : Int) → i = (B1.length : Int) → x3 = (B1.length : Int) + (A2.length : Int) →
    Ev (fun k => swp z k (p ++ (B1 ++ (A2 ++ (m ++ (A1 ++ (B2 ++ q)))))) x1 x2 x3 i) (p ++ (B1 ++ (B2 ++ (m ++ (A1 ++ (A2 ++ q)))))) := by
  intro A2
  induction A2 with
  | nil =>
    intro B2 A1 B1 p m q x1 x2 x3 i h1 h2 hb e1 e2 e4 e3
    obtain rfl : B2 = [] := List.length_eq_zero_iff.1 (by simpa using h1.symm)
    refine Ev.step (f := fun _ => some _) (fun k => ?_) (Ev.now _)
    simp only [swp]
    rw [if_neg (by simp at e3; omega)]
  | cons x A2 ih =>
    intro B2 A1 B1 p m q x1 x2 x3 i h1 h2 hb e1 e2 e4 e3
    cases B2 with
    | nil => simp at h1
    | cons y B2 =>
      have h1' : A2.length = B2.length := by simpa using h1
      have hr := ih B2 (A1 ++ [x]) (B1 ++ [y]) p m q x1 x2 x3 (i + 1) h1' (by simp; omega) (by simp only [List.length_append, List.length_cons, List.length_nil] at hb ⊢; omega) e1 (by simp only [List.length_append, List.length_cons, List.length_nil] at e2 ⊢; omega) (by simp only [List.length_append, List.length_cons, List.length_nil]; omega) (by simp only [List.length_append, List.length_cons, List.length_nil] at e3 ⊢; omega)
      have hl : (p ++ (B1 ++ ((x :: A2) ++ (m ++ (A1 ++ ((y :: B2) ++ q)))))).length = p.length + B1.length + A2.length + m.length + A1.length + B2.length + q.length + 2 := by simp; omega
      rw [hl] at hb
      simp only [List.length_cons] at e2 e3
      have w1 : wrap64 (x1 + i) = ((p ++ B1).length : Int) := by rw [wrap_small (by omega) (by omega)]; simp; omega
      have w2 : wrap64 (x2 + i) = ((p ++ (B1 ++ ((x :: A2) ++ (m ++ A1)))).length : Int) := by rw [wrap_small (by omega) (by omega)]; simp; omega
      have w3 : wrap64 (i + 1) = i + 1 := wrap_small (by omega) (by omega)
      have g1 : rd z (p ++ (B1 ++ ((x :: A2) ++ (m ++ (A1 ++ ((y :: B2) ++ q)))))) ((p ++ B1).length : Int) = x := by
        have := rd_at (z := z) (p := p ++ B1) (q := A2 ++ (m ++ (A1 ++ ((y :: B2) ++ q)))) (x := x) rfl
        simpa using this
      have g2 : rd z (p ++ (B1 ++ ((x :: A2) ++ (m ++ (A1 ++ ((y :: B2) ++ q)))))) ((p ++ (B1 ++ ((x :: A2) ++ (m ++ A1)))).length : Int) = y := by
        have := rd_at (z := z) (p := p ++ (B1 ++ ((x :: A2) ++ (m ++ A1)))) (q := B2 ++ q) (x := y) rfl
        simpa using this
      have s1 : (p ++ (B1 ++ ((x :: A2) ++ (m ++ (A1 ++ ((y :: B2) ++ q)))))).set (((p ++ B1).length : Nat) : Int).toNat y = p ++ (B1 ++ ((y :: A2) ++ (m ++ (A1 ++ ((y :: B2) ++ q))))) := by
        rw [Int.toNat_natCast]
        simp
      have s2 : (p ++ (B1 ++ ((y :: A2) ++ (m ++ (A1 ++ ((y :: B2) ++ q)))))).set (((p ++ (B1 ++ ((x :: A2) ++ (m ++ A1)))).length : Nat) : Int).toNat x = p ++ (B1 ++ ((y :: A2) ++ (m ++ (A1 ++ ((x :: B2) ++ q))))) := by
        rw [Int.toNat_natCast]
        simp
      refine Ev.step (f := fun k => swp z k (p ++ ((B1 ++ [y]) ++ (A2 ++ (m ++ ((A1 ++ [x]) ++ (B2 ++ q)))))) x1 x2 x3 (i + 1)) (fun k => ?_) (by simpa using hr)
      simp only [swp]
      rw [if_pos (by omega), w1, w2, w3, hl, if_pos (by omega), if_pos (by simp; omega), if_pos (by omega), if_pos (by simp; omega), g1, g2, s1, s2]
      simp

/-- Two blocks of one length change places. -/
theorem swp_all (A B p m q : List α) (x1 x2 x3 : Int) (h : A.length = B.length) (hb : (p ++ (A ++ (m ++ (B ++ q)))).length ≤ 1000000000000) (e1 : x1 = (p.length : Int)) (e2 : x2 = (p.length : Int) + (A.length : Int) + (m.length : Int)) (e3 : x3 = (A.length : Int)) :
    Ev (fun k => swp z k (p ++ (A ++ (m ++ (B ++ q)))) x1 x2 x3 0) (p ++ (B ++ (m ++ (A ++ q)))) := by
  have := swp_run (z := z) A B [] [] p m q x1 x2 x3 0 h rfl (by simpa using hb) e1 (by simpa using e2) rfl (by simpa using e3)
  simpa using this

/-- Two blocks side by side change places. -/
theorem rot_run : ∀ (n : Nat) (U V p q : List α) (x2 i j : Int), U.length + V.length ≤ n → U ≠ [] → V ≠ [] → (p ++ (U ++ (V ++ q))).length ≤ 1000000000000 → x2 = (p.length : Int) + (U.length : Int) → i = (U.length : Int) → j = (V.length : Int) →
    Ev (fun k => rot z k (p ++ (U ++ (V ++ q))) x2 i j) (p ++ (V ++ (U ++ q))) := by
  intro n
  induction n with
  | zero =>
    intro U V p q x2 i j hn hu
    exact absurd (List.length_eq_zero_iff.1 (by omega)) hu
  | succ n ih =>
    intro U V p q x2 i j hn hu hv hb e2 ei ej
    have hu0 : 0 < U.length := List.length_pos_iff.2 hu
    have hv0 : 0 < V.length := List.length_pos_iff.2 hv
    simp only [List.length_append] at hb
    have w1 : wrap64 (x2 - i) = (p.length : Int) := by rw [wrap_small (by omega) (by omega)]; omega
    by_cases c1 : i = j
    · have hs := swp_all (z := z) U V p [] q (p.length : Int) x2 i (by omega) (by simp; omega) rfl (by simp; omega) ei
      refine Ev.step (f := fun k => (swp z k (p ++ (U ++ (V ++ q))) (p.length : Int) x2 i 0).bind fun t => some t) (fun k => ?_) (Ev.bind (f := fun _ t => some t) (by simpa using hs) (Ev.now _))
      simp only [rot]
      rw [if_pos c1, w1]
    · by_cases c2 : i > j
      · have hU : U = U.take V.length ++ U.drop V.length := (List.take_append_drop _ _).symm
        obtain ⟨U1, hU1⟩ : ∃ x, x = U.take V.length := ⟨_, rfl⟩
        obtain ⟨U2, hU2⟩ : ∃ x, x = U.drop V.length := ⟨_, rfl⟩
        rw [← hU1, ← hU2] at hU
        have l1 : U1.length = V.length := by rw [hU1, List.length_take]; omega
        have l2 : U2.length = U.length - V.length := by rw [hU2, List.length_drop]
        have hs := swp_all (z := z) U1 V p U2 q (p.length : Int) x2 j l1 (by simp; omega) rfl (by omega) (by omega)
        have hr := ih U2 U1 (p ++ V) q x2 (i - j) j (by omega) (fun h => by rw [h] at l2; simp at l2; omega) (fun h => by rw [h] at l1; simp at l1; omega) (by simp; omega) (by simp; omega) (by omega) (by omega)
        refine Ev.step (f := fun k => (swp z k (p ++ (U ++ (V ++ q))) (p.length : Int) x2 j 0).bind fun t => rot z k t x2 (i - j) j) (fun k => ?_) (Ev.bind (f := fun k t => rot z k t x2 (i - j) j) (a := p ++ (V ++ (U2 ++ (U1 ++ q)))) ?_ ?_)
        · have w2 : wrap64 (i - j) = i - j := wrap_small (by omega) (by omega)
          simp only [rot]
          rw [if_neg c1, if_pos c2, w1, w2]
        · rw [hU]
          simpa using hs
        · rw [hU]
          simpa using hr
      · have hV : V = V.take (V.length - U.length) ++ V.drop (V.length - U.length) := (List.take_append_drop _ _).symm
        obtain ⟨V1, hV1⟩ : ∃ x, x = V.take (V.length - U.length) := ⟨_, rfl⟩
        obtain ⟨V2, hV2⟩ : ∃ x, x = V.drop (V.length - U.length) := ⟨_, rfl⟩
        rw [← hV1, ← hV2] at hV
        have l1 : V1.length = V.length - U.length := by rw [hV1, List.length_take]; omega
        have l2 : V2.length = U.length := by rw [hV2, List.length_drop]; omega
        have hs := swp_all (z := z) U V2 p V1 q (p.length : Int) (x2 + j - i) i (by omega) (by simp; omega) rfl (by omega) (by omega)
        have hr := ih V2 V1 p (U ++ q) x2 i (j - i) (by omega) (fun h => by rw [h] at l2; simp at l2; omega) (fun h => by rw [h] at l1; simp at l1; omega) (by simp; omega) (by omega) (by omega) (by omega)
        refine Ev.step (f := fun k => (swp z k (p ++ (U ++ (V ++ q))) (p.length : Int) (x2 + j - i) i 0).bind fun t => rot z k t x2 i (j - i)) (fun k => ?_) (Ev.bind (f := fun k t => rot z k t x2 i (j - i)) (a := p ++ (V2 ++ (V1 ++ (U ++ q)))) ?_ ?_)
        · have w2 : wrap64 (j - i) = j - i := wrap_small (by omega) (by omega)
          have w3 : wrap64 (wrap64 (x2 + j) - i) = x2 + j - i := by rw [wrap_small (x := x2 + j) (by omega) (by omega), wrap_small (by omega) (by omega)]
          simp only [rot]
          rw [if_neg c1, if_neg c2, w1, w2, w3]
        · rw [hV]
          simpa using hs
        · rw [hV]
          simpa using hr
end
end Go.Proofs.YtkolbflmihfokaaW.Sort
