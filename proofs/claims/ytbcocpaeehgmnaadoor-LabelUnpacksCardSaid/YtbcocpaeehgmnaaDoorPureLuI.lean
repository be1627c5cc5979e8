/- Both decoders end on any string. -/
import Derived.Test.YtbcocpaeehgmnaaDoorPureLuH
namespace Go.Proofs.YtbcocpaeehgmnaaDoor.Pure
open Go.RowKit Go.Proofs.YtbcocpaeehgmnaaDoor.Lp Go.Proofs.YtbcocpaeehgmnaaDoor.Runes Go.Proofs.YtbcocpaeehgmnaaDoorW.PrintWords Go.Proofs.YtbcocpaeehgmnaaDoorW.PrintLast

theorem Ev.one {α : Type} {f : Nat → Option α} {r s : α} (h : Ev f r) (g : Ev f s) : r = s := by
  obtain ⟨K, hK⟩ := h
  obtain ⟨J, hJ⟩ := g
  have h1 := hK (K + J) (by omega)
  rw [hJ (K + J) (by omega)] at h1
  injection h1 with h1
  exact h1.symm
theorem ev_mono {α : Type} {f : Nat → Option α} {r : α} (hm : ∀ k, LeO (f k) (f (k + 1))) (K : Nat) (h : f K = some r) : Ev f r := by
  refine ⟨K, fun k hk => ?_⟩
  obtain ⟨d, rfl⟩ : ∃ d, k = K + d := ⟨k - K, by omega⟩
  clear hk
  induction d with
  | zero => exact h
  | succ d ih => exact hm _ _ ih
section
variable {L : List UInt8}
/-- The labels of a decoded name, told as lists. -/
def Short (n : Nat) (l : List ByteArray) : Prop := ∃ ls : List (List UInt8), l = ls.map mk ∧ ls.length ≤ n ∧ ∀ s ∈ ls, s.length ≤ 100
theorem Short.nil (n : Nat) : Short n [] := ⟨[], rfl, Nat.zero_le _, fun s hs => by cases hs⟩
theorem take_total (hL : L.length ≤ 5000) : ∀ (d c p : Nat) (x6 : List ByteArray) (x7 : Int), c + d = 20 → Short c x6 → (x7 = -1 ∨ 0 ≤ x7) → x7 ≤ 5002 →
    ∃ r, Ev (fun k => label_take.l0 k (mk L) (p : Int) x6 x7 (c : Int)) r ∧ (r.2 < 0 ∨ (Short 20 r.1 ∧ r.2 ≤ 5002 ∧ (if x7 = -1 then (p : Int) < r.2 else x7 ≤ r.2))) := by
  intro d
  induction d with
  | zero =>
    intro c p x6 x7 hc _ _ _
    exact ⟨([], -1), ⟨1, fun k hk => by obtain ⟨j, rfl⟩ : ∃ j, k = j + 1 := ⟨k - 1, by omega⟩; simp only []; rw [label_take.l0, if_neg (by omega)]⟩, .inl (by simp)⟩
  | succ d ih =>
    intro c p x6 x7 hc h6 h7 h7u
    have fail : ∀ (K : Nat), (∀ k, label_take.l0 (k + K) (mk L) (p : Int) x6 x7 (c : Int) = some ([], -1)) → ∃ r, Ev (fun k => label_take.l0 k (mk L) (p : Int) x6 x7 (c : Int)) r ∧ (r.2 < 0 ∨ (Short 20 r.1 ∧ r.2 ≤ 5002 ∧ (if x7 = -1 then (p : Int) < r.2 else x7 ≤ r.2))) := by
      intro K h
      exact ⟨([], -1), ⟨K, fun k hk => by obtain ⟨j, rfl⟩ : ∃ j, k = j + K := ⟨k - K, by omega⟩; exact h j⟩, .inl (by simp)⟩
    by_cases hp : p < L.length
    · obtain ⟨m, hm⟩ : ∃ m, L[p].toNat = m := ⟨_, rfl⟩
      have hm2 : m < 256 := by have := byte_lt L[p]; omega
      have e1 : wrap64 ((p : Int) + 1) = ((p + 1 : Nat) : Int) := by rw [w64b (by omega) (by omega)]; omega
      have e2 : wrap64 (((p + 1 : Nat) : Int) + (m : Int)) = ((p + 1 + m : Nat) : Int) := by rw [w64b (by omega) (by omega)]; omega
      have hh : ∀ k, label_take.l0 (k + 1) (mk L) (p : Int) x6 x7 (c : Int) = if (m : Int) = 0 then some (x6, mx x7 (wrap64 ((p : Int) + 1))) else if (m : Int) < 64 then label_take.j1 k (mk L) (p : Int) x6 x7 (m : Int) (c : Int) (decide (((p + 1 + m : Nat) : Int) ≤ ((mk L).size : Int))) else label_take.j1 k (mk L) (p : Int) x6 x7 (m : Int) (c : Int) false := by
        intro k
        rw [label_take.l0, if_pos (by omega), if_neg (by rw [mk_size]; omega), if_pos (by omega), if_pos (by rw [mk_size]; omega), bt_mk L p hp, hm, w64n m (by omega), e1, e2]
      by_cases c0 : m = 0
      · refine ⟨(x6, mx x7 ((p + 1 : Nat) : Int)), ⟨1, fun k hk => by obtain ⟨j, rfl⟩ : ∃ j, k = j + 1 := ⟨k - 1, by omega⟩; exact take_zero hL (by omega) hp (by omega)⟩, ?_⟩
        obtain ⟨ls, h1, h2, h3⟩ := h6
        right
        refine ⟨⟨ls, h1, by omega, h3⟩, ?_, ?_⟩
        · simp only [mx]; split <;> omega
        · simp only [mx]; (repeat' split) <;> omega
      · by_cases c1 : m < 64
        · by_cases c2 : p + 1 + m ≤ L.length
          · obtain ⟨ls, h1, h2, h3⟩ := h6
            obtain ⟨r, ⟨K, hK⟩, hr⟩ := ih (c + 1) (p + 1 + m) (x6 ++ [mk ((L.drop (p + 1)).take m)]) x7 (by omega) ⟨ls ++ [(L.drop (p + 1)).take m], by rw [h1]; simp, by simp; omega, fun s hs => by
              rcases List.mem_append.1 hs with hs | hs
              · exact h3 s hs
              · rw [List.mem_singleton] at hs; subst hs; rw [List.length_take]; omega⟩ h7 h7u
            refine ⟨r, ⟨K + 2, fun k hk => ?_⟩, hr.imp id (fun h => ⟨h.1, h.2.1, ?_⟩)⟩
            · obtain ⟨j, rfl⟩ : ∃ j, k = j + 2 := ⟨k - 2, by omega⟩
              simp only []
              rw [take_lab hL (by omega) hp hm (by omega) c1 c2 (by rw [h1, List.length_map]; omega)]
              exact hK j (by omega)
            · have := h.2.2
              split
              · rename_i e; rw [if_pos e] at this; omega
              · rename_i e; rw [if_neg e] at this; exact this
          · refine fail 3 (fun k => ?_)
            rw [hh, if_neg (by omega), if_pos (by omega), decide_eq_false (by rw [mk_size]; omega), label_take.j1, if_neg (by simp), if_neg (by omega), label_take.j2, if_neg (by simp)]
        · by_cases c3 : m < 192
          · refine fail 3 (fun k => ?_)
            rw [hh, if_neg (by omega), if_neg (by omega), label_take.j1, if_neg (by simp), if_neg (by omega), label_take.j2, if_neg (by simp)]
          · by_cases c4 : p + 1 < L.length
            · obtain ⟨n, hn⟩ : ∃ n, L[p + 1].toNat = n := ⟨_, rfl⟩
              by_cases c5 : (m - 192) * 256 + n < p
              · obtain ⟨r, ⟨K, hK⟩, hr⟩ := ih (c + 1) ((m - 192) * 256 + n) x6 (if x7 < 0 then ((p + 2 : Nat) : Int) else x7) (by omega) (by obtain ⟨ls, h1, h2, h3⟩ := h6; exact ⟨ls, h1, by omega, h3⟩) (by right; split <;> omega) (by split <;> omega)
                refine ⟨r, ⟨K + 3, fun k hk => ?_⟩, hr.imp id (fun h => ⟨h.1, h.2.1, ?_⟩)⟩
                · obtain ⟨j, rfl⟩ : ∃ j, k = j + 3 := ⟨k - 3, by omega⟩
                  simp only []
                  rw [take_ptr (m := m - 192) (n := n) hL (by omega) c4 (by omega) hn c5]
                  exact hK j (by omega)
                · have := h.2.2
                  by_cases cc : x7 < 0
                  · rw [if_pos cc] at this
                    rw [if_neg (by omega)] at this
                    rw [if_pos (by omega)]
                    omega
                  · rw [if_neg cc] at this
                    rw [if_neg (by omega)] at this ⊢
                    exact this
              · refine fail 3 (fun k => ?_)
                have e6 : wrap64 (wrap64 ((m : Int) - 192) * 256) = (((m - 192) * 256 : Nat) : Int) := by rw [w64b (x := (m : Int) - 192) (by omega) (by omega), w64b (by omega) (by omega)]; omega
                have hn2 : n < 256 := by have := byte_lt L[p + 1]; omega
                rw [hh, if_neg (by omega), if_neg (by omega), label_take.j1, if_neg (by simp), if_pos (by omega), e1, decide_eq_true (by rw [mk_size]; omega), label_take.j2, if_pos rfl, e1, if_pos (by omega), if_pos (by rw [mk_size]; omega), bt_mk L (p + 1) c4, hn, w64n n (by omega), e6, or64 (m - 192) n (by omega) hn2]
                by_cases c7 : x7 < 0
                · rw [if_pos c7, if_pos (by omega)]
                · rw [if_neg c7, if_pos (by omega)]
            · refine fail 3 (fun k => ?_)
              rw [hh, if_neg (by omega), if_neg (by omega), label_take.j1, if_neg (by simp), if_pos (by omega), e1, decide_eq_false (by rw [mk_size]; omega), label_take.j2, if_neg (by simp)]
    · refine fail 1 (fun k => ?_)
      rw [label_take.l0, if_pos (by omega), if_pos (by rw [mk_size]; omega)]
theorem name_total (hL : L.length ≤ 5000) : ∀ (d p : Nat), d ≤ 100 → ∃ r, Ev (fun k => patchbayref4_nameAt.f k (mk L) (p : Int) (d : Int)) r ∧ (r.2 < 0 ∨ (Short d r.1 ∧ r.2 ≤ 5002 ∧ (p : Int) < r.2)) := by
  intro d
  induction d with
  | zero =>
    intro p _
    refine ⟨([], -1), ⟨2, fun k hk => ?_⟩, .inl (by simp)⟩
    obtain ⟨j, rfl⟩ : ∃ j, k = j + 2 := ⟨k - 2, by omega⟩
    simp only []
    rw [patchbayref4_nameAt.f, if_neg (by omega)]
    by_cases hp : (p : Int) ≥ ((mk L).size : Int)
    · rw [if_pos hp, patchbayref4_nameAt.j0, if_pos rfl]
    · rw [if_neg hp, patchbayref4_nameAt.j0, if_pos (by rfl)]
  | succ d ih =>
    intro p hd
    have fail : ∀ (K : Nat), (∀ k, patchbayref4_nameAt.f (k + K) (mk L) (p : Int) ((d + 1 : Nat) : Int) = some ([], -1)) → ∃ r, Ev (fun k => patchbayref4_nameAt.f k (mk L) (p : Int) ((d + 1 : Nat) : Int)) r ∧ (r.2 < 0 ∨ (Short (d + 1) r.1 ∧ r.2 ≤ 5002 ∧ (p : Int) < r.2)) := by
      intro K h
      exact ⟨([], -1), ⟨K, fun k hk => by obtain ⟨j, rfl⟩ : ∃ j, k = j + K := ⟨k - K, by omega⟩; exact h j⟩, .inl (by simp)⟩
    by_cases hp : p < L.length
    · obtain ⟨m, hm⟩ : ∃ m, L[p].toNat = m := ⟨_, rfl⟩
      have hm2 : m < 256 := by have := byte_lt L[p]; omega
      have e1 : wrap64 ((p : Int) + 1) = ((p + 1 : Nat) : Int) := by rw [w64b (by omega) (by omega)]; omega
      have e2 : wrap64 (((p + 1 : Nat) : Int) + (m : Int)) = ((p + 1 + m : Nat) : Int) := by rw [w64b (by omega) (by omega)]; omega
      have hd0 : (((d + 1 : Nat) : Int) == 0) = false := beq_eq_false_iff_ne.2 (by omega)
      by_cases c0 : m = 0
      · refine ⟨([], ((p + 1 : Nat) : Int)), ⟨2, fun k hk => by obtain ⟨j, rfl⟩ : ∃ j, k = j + 2 := ⟨k - 2, by omega⟩; exact name_zero hL (by omega) hp (by omega)⟩, .inr ⟨Short.nil _, by simp only []; omega, by simp only []; omega⟩⟩
      · by_cases c1 : m < 64
        · by_cases c2 : p + 1 + m ≤ L.length
          · obtain ⟨r, ⟨K, hK⟩, hr⟩ := ih (p + 1 + m) (by omega)
            have hh : ∀ k, K ≤ k → patchbayref4_nameAt.f (k + 3) (mk L) (p : Int) ((d + 1 : Nat) : Int) = if r.2 < 0 then some ([], -1) else if 1 + r.1.length < 8796093022208 then some (mk ((L.drop (p + 1)).take m) :: r.1, r.2) else none := by
              intro k hk
              have := hK k hk
              simp only [] at this
              rw [name_lab hL (by omega) hd hp hm (by omega) c1 c2, Nat.add_sub_cancel, this, Option.bind_some]
            rcases hr with hr | ⟨⟨ls, h1, h2, h3⟩, h4, h5⟩
            · refine ⟨([], -1), ⟨K + 3, fun k hk => ?_⟩, .inl (by simp)⟩
              obtain ⟨j, rfl⟩ : ∃ j, k = j + 3 := ⟨k - 3, by omega⟩
              simp only []
              rw [hh j (by omega), if_pos hr]
            · refine ⟨(mk ((L.drop (p + 1)).take m) :: r.1, r.2), ⟨K + 3, fun k hk => ?_⟩, .inr ⟨⟨(L.drop (p + 1)).take m :: ls, by rw [h1]; rfl, by simp; omega, fun s hs => ?_⟩, h4, by simp only []; omega⟩⟩
              · obtain ⟨j, rfl⟩ : ∃ j, k = j + 3 := ⟨k - 3, by omega⟩
                simp only []
                rw [hh j (by omega), if_neg (by omega), if_pos (by rw [h1, List.length_map]; omega)]
              · rcases List.mem_cons.1 hs with hs | hs
                · subst hs; rw [List.length_take]; omega
                · exact h3 s hs
          · refine fail 3 (fun k => ?_)
            rw [patchbayref4_nameAt.f, if_neg (by omega), if_neg (by rw [mk_size]; omega), hd0, patchbayref4_nameAt.j0, if_neg (by simp), if_pos (by omega), if_pos (by rw [mk_size]; omega), bt_mk L p hp, hm, w64n m (by omega), if_neg (by omega), if_neg (by omega), if_neg (by omega), e1, e2, decide_eq_true (by rw [mk_size]; omega), patchbayref4_nameAt.j1, if_pos rfl]
        · by_cases c3 : m < 192
          · refine fail 3 (fun k => ?_)
            rw [patchbayref4_nameAt.f, if_neg (by omega), if_neg (by rw [mk_size]; omega), hd0, patchbayref4_nameAt.j0, if_neg (by simp), if_pos (by omega), if_pos (by rw [mk_size]; omega), bt_mk L p hp, hm, w64n m (by omega), if_neg (by omega), if_neg (by omega), if_pos (by omega), patchbayref4_nameAt.j1, if_pos rfl]
          · by_cases c4 : p + 1 < L.length
            · obtain ⟨n, hn⟩ : ∃ n, L[p + 1].toNat = n := ⟨_, rfl⟩
              have hn2 : n < 256 := by have := byte_lt L[p + 1]; omega
              by_cases c5 : (m - 192) * 256 + n < p
              · obtain ⟨r, ⟨K, hK⟩, hr⟩ := ih ((m - 192) * 256 + n) (by omega)
                have hh : ∀ k, K ≤ k → patchbayref4_nameAt.f (k + 2) (mk L) (p : Int) ((d + 1 : Nat) : Int) = if r.2 < 0 then some ([], -1) else some (r.1, ((p + 2 : Nat) : Int)) := by
                  intro k hk
                  have := hK k hk
                  simp only [] at this
                  rw [name_ptr (m := m - 192) (n := n) hL (by omega) hd c4 (by omega) hn c5, Nat.add_sub_cancel, this, Option.bind_some]
                rcases hr with hr | ⟨⟨ls, h1, h2, h3⟩, h4, h5⟩
                · refine ⟨([], -1), ⟨K + 2, fun k hk => ?_⟩, .inl (by simp)⟩
                  obtain ⟨j, rfl⟩ : ∃ j, k = j + 2 := ⟨k - 2, by omega⟩
                  simp only []
                  rw [hh j (by omega), if_pos hr]
                · refine ⟨(r.1, ((p + 2 : Nat) : Int)), ⟨K + 2, fun k hk => ?_⟩, .inr ⟨⟨ls, h1, by omega, h3⟩, by simp only []; omega, by simp only []; omega⟩⟩
                  obtain ⟨j, rfl⟩ : ∃ j, k = j + 2 := ⟨k - 2, by omega⟩
                  simp only []
                  rw [hh j (by omega), if_neg (by omega)]
              · refine fail 2 (fun k => ?_)
                have e6 : wrap64 (wrap64 (wrap64 ((m : Int) - 192) * 256) + (n : Int)) = (((m - 192) * 256 + n : Nat) : Int) := by
                  rw [w64b (x := (m : Int) - 192) (by omega) (by omega), w64b (x := ((m : Int) - 192) * 256) (by omega) (by omega), w64b (by omega) (by omega)]
                  omega
                rw [patchbayref4_nameAt.f, if_neg (by omega), if_neg (by rw [mk_size]; omega), hd0, patchbayref4_nameAt.j0, if_neg (by simp), if_pos (by omega), if_pos (by rw [mk_size]; omega), bt_mk L p hp, hm, w64n m (by omega), if_neg (by omega), if_pos (by omega), e1,
                  if_neg (by rw [mk_size]; omega), if_pos (by omega), if_pos (by rw [mk_size]; omega), bt_mk L (p + 1) c4, hn, w64n n (by omega), e6, if_pos (by omega)]
            · refine fail 2 (fun k => ?_)
              rw [patchbayref4_nameAt.f, if_neg (by omega), if_neg (by rw [mk_size]; omega), hd0, patchbayref4_nameAt.j0, if_neg (by simp), if_pos (by omega), if_pos (by rw [mk_size]; omega), bt_mk L p hp, hm, w64n m (by omega), if_neg (by omega), if_pos (by omega), e1, if_pos (by rw [mk_size]; omega)]
    · refine fail 2 (fun k => ?_)
      rw [patchbayref4_nameAt.f, if_neg (by omega), if_pos (by rw [mk_size]; omega), patchbayref4_nameAt.j0, if_pos rfl]
end
end Go.Proofs.YtbcocpaeehgmnaaDoor.Pure
