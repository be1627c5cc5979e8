/- Both decoders answer what a place tells. -/
import Derived.Test.YtbcocpaeehgmnaaDoorPureLuG
namespace Go.Proofs.YtbcocpaeehgmnaaDoor.Pure
open Go.RowKit Go.Proofs.YtbcocpaeehgmnaaDoor.Lp Go.Proofs.YtbcocpaeehgmnaaDoor.Runes Go.Proofs.YtbcocpaeehgmnaaDoorW.PrintWords Go.Proofs.YtbcocpaeehgmnaaDoorW.PrintLast

theorem or64 (m n : Nat) (hm : m < 64) (hn : n < 256) : Go.bits .or .i64 ((m * 256 : Nat) : Int) (n : Int) = ((m * 256 + n : Nat) : Int) := by
  have H : ∀ i : Fin 64, ∀ j : Fin 256, Go.bits .or .i64 ((i.val * 256 : Nat) : Int) ((j.val : Nat) : Int) = ((i.val * 256 + j.val : Nat) : Int) := by decide +kernel
  exact H ⟨m, hm⟩ ⟨n, hn⟩
theorem w64n (n : Nat) (h : n ≤ 1000000) : wrap64 (n : Int) = (n : Int) := w64b (by omega) (by omega)
theorem byte_lt (b : UInt8) : b.toNat < 256 := b.toNat_lt
section
variable {L : List UInt8}
theorem take_zero {p k : Nat} {x6 : List ByteArray} {x7 : Int} {c : Nat} (hL : L.length ≤ 5000) (hc : c < 20) (h : p < L.length) (hb : L[p].toNat = 0) :
    label_take.l0 (k + 1) (mk L) (p : Int) x6 x7 (c : Int) = some (x6, mx x7 ((p + 1 : Nat) : Int)) := by
  have e1 : wrap64 ((p : Int) + 1) = ((p + 1 : Nat) : Int) := by rw [w64b (by omega) (by omega)]; omega
  rw [label_take.l0, if_pos (by omega), if_neg (by rw [mk_size]; omega), if_pos (by omega), if_pos (by rw [mk_size]; omega), bt_mk L p h, hb, w64n 0 (by omega), if_pos (show ((0 : Nat) : Int) = 0 from rfl), e1]
theorem take_lab {p k : Nat} {x6 : List ByteArray} {x7 : Int} {c m : Nat} (hL : L.length ≤ 5000) (hc : c < 20) (h : p < L.length) (hb : L[p].toNat = m) (h1 : 1 ≤ m) (h2 : m < 64) (hl : p + 1 + m ≤ L.length) (h6 : x6.length ≤ 1000) :
    label_take.l0 (k + 2) (mk L) (p : Int) x6 x7 (c : Int) = label_take.l0 k (mk L) ((p + 1 + m : Nat) : Int) (x6 ++ [mk ((L.drop (p + 1)).take m)]) x7 ((c + 1 : Nat) : Int) := by
  have e1 : wrap64 ((p : Int) + 1) = ((p + 1 : Nat) : Int) := by rw [w64b (by omega) (by omega)]; omega
  have e2 : wrap64 (((p + 1 : Nat) : Int) + (m : Int)) = ((p + 1 + m : Nat) : Int) := by rw [w64b (by omega) (by omega)]; omega
  have e3 : wrap64 ((p : Int) + wrap64 (1 + (m : Int))) = ((p + 1 + m : Nat) : Int) := by rw [w64b (x := 1 + (m : Int)) (by omega) (by omega), w64b (by omega) (by omega)]; omega
  have e4 : wrap64 ((c : Int) + 1) = ((c + 1 : Nat) : Int) := by rw [w64b (by omega) (by omega)]; omega
  rw [label_take.l0, if_pos (by omega), if_neg (by rw [mk_size]; omega), if_pos (by omega), if_pos (by rw [mk_size]; omega), bt_mk L p h, hb, w64n m (by omega), if_neg (by omega), if_pos (by omega), e1, e2, decide_eq_true (by rw [mk_size]; omega),
    label_take.j1, if_pos rfl, e1, e2, if_pos (by omega), if_pos (by omega), if_pos (by rw [mk_size]; omega), if_pos (by omega), e3, e4, Int.toNat_natCast, Int.toNat_natCast, mk_extract]
  rw [show p + 1 + m - (p + 1) = m by omega]
theorem take_ptr {p k : Nat} {x6 : List ByteArray} {x7 : Int} {c m n : Nat} (hL : L.length ≤ 5000) (hc : c < 20) (h : p + 1 < L.length) (hb : L[p].toNat = 192 + m) (hn : L[p + 1].toNat = n) (ha : m * 256 + n < p) :
    label_take.l0 (k + 3) (mk L) (p : Int) x6 x7 (c : Int) = label_take.l0 k (mk L) ((m * 256 + n : Nat) : Int) x6 (if x7 < 0 then ((p + 2 : Nat) : Int) else x7) ((c + 1 : Nat) : Int) := by
  have e1 : wrap64 ((p : Int) + 1) = ((p + 1 : Nat) : Int) := by rw [w64b (by omega) (by omega)]; omega
  have e5 : wrap64 ((p : Int) + 2) = ((p + 2 : Nat) : Int) := by rw [w64b (by omega) (by omega)]; omega
  have e4 : wrap64 ((c : Int) + 1) = ((c + 1 : Nat) : Int) := by rw [w64b (by omega) (by omega)]; omega
  have hm : m < 64 := by have := byte_lt L[p]; omega
  have hn2 : n < 256 := by have := byte_lt L[p + 1]; omega
  have e6 : wrap64 (wrap64 (((192 + m : Nat) : Int) - 192) * 256) = ((m * 256 : Nat) : Int) := by rw [w64b (x := ((192 + m : Nat) : Int) - 192) (by omega) (by omega), w64b (by omega) (by omega)]; omega
  rw [label_take.l0, if_pos (by omega), if_neg (by rw [mk_size]; omega), if_pos (by omega), if_pos (by rw [mk_size]; omega), bt_mk L p (by omega), hb, w64n (192 + m) (by omega), if_neg (by omega), if_neg (by omega),
    label_take.j1, if_neg (by simp), if_pos (by omega), e1, decide_eq_true (by rw [mk_size]; omega), label_take.j2, if_pos rfl, e1, if_pos (by omega), if_pos (by rw [mk_size]; omega), bt_mk L (p + 1) h, hn, w64n n (by omega), e6, or64 m n hm hn2]
  by_cases c7 : x7 < 0
  · rw [if_pos c7, if_neg (by omega), e4, e5, if_pos c7]
  · rw [if_neg c7, if_neg (by omega), e4, if_neg c7]
theorem take_at (hL : L.length ≤ 5000) {p nxt z n : Nat} {ls : List (List UInt8)} (h : At L p ls nxt z n) : ∀ (x6 : List ByteArray) (x7 : Int) (c : Nat), c + n ≤ 20 → x6.length ≤ c → (x7 = -1 ∨ (z : Int) ≤ x7) →
    Ev (fun k => label_take.l0 k (mk L) (p : Int) x6 x7 (c : Int)) (x6 ++ ls.map mk, if x7 = -1 then (nxt : Int) else x7) := by
  induction h with
  | zero h hb =>
    rename_i p
    intro x6 x7 c hc h6 h7
    refine Ev.step (f := fun _ => some (x6, mx x7 ((p + 1 : Nat) : Int))) (fun k => take_zero hL (by omega) h hb) ?_
    have e : mx x7 ((p + 1 : Nat) : Int) = if x7 = -1 then ((p + 1 : Nat) : Int) else x7 := by
      unfold mx
      repeat' split
      all_goals omega
    rw [e, List.map_nil, List.append_nil]
    exact Ev.now _
  | lab h hb h1 h2 hl ht t ih =>
    rename_i p x ls nxt z n
    intro x6 x7 c hc h6 h7
    have e := ih (x6 ++ [mk x]) x7 (c + 1) (by omega) (by simp; omega) h7
    obtain ⟨K, hK⟩ := e
    refine ⟨K + 2, fun k hk => ?_⟩
    obtain ⟨j, rfl⟩ : ∃ j, k = j + 2 := ⟨k - 2, by omega⟩
    have := hK j (by omega)
    simp only [] at this ⊢
    rw [take_lab hL (by omega) h hb h1 h2 hl (by omega), ht, this]
    simp
  | ptr h hb hc ha ha2 hz t ih =>
    rename_i p a ls nxt z n
    intro x6 x7 c hcc h6 h7
    have e0 : a / 256 * 256 + a % 256 = a := by omega
    have e := ih x6 (if x7 < 0 then ((p + 2 : Nat) : Int) else x7) (c + 1) (by omega) (by omega) (by right; split <;> omega)
    obtain ⟨K, hK⟩ := e
    refine ⟨K + 3, fun k hk => ?_⟩
    obtain ⟨j, rfl⟩ : ∃ j, k = j + 3 := ⟨k - 3, by omega⟩
    have := hK j (by omega)
    simp only [] at this ⊢
    rw [take_ptr hL (by omega) h hb hc (by omega), e0, this]
    congr 2
    repeat' split
    all_goals omega
theorem name_zero {p k : Nat} {d : Nat} (hL : L.length ≤ 5000) (hd : 1 ≤ d) (h : p < L.length) (hb : L[p].toNat = 0) : patchbayref4_nameAt.f (k + 2) (mk L) (p : Int) (d : Int) = some ([], ((p + 1 : Nat) : Int)) := by
  have e1 : wrap64 ((p : Int) + 1) = ((p + 1 : Nat) : Int) := by rw [w64b (by omega) (by omega)]; omega
  rw [patchbayref4_nameAt.f, if_neg (by omega), if_neg (by rw [mk_size]; omega), beq_eq_false_iff_ne.2 (by omega), patchbayref4_nameAt.j0, if_neg (by simp), if_pos (by omega), if_pos (by rw [mk_size]; omega), bt_mk L p h, hb, w64n 0 (by omega), if_pos (show ((0 : Nat) : Int) = 0 from rfl), e1]
theorem name_lab {p k : Nat} {d m : Nat} (hL : L.length ≤ 5000) (hd : 1 ≤ d) (hd2 : d ≤ 100) (h : p < L.length) (hb : L[p].toNat = m) (h1 : 1 ≤ m) (h2 : m < 64) (hl : p + 1 + m ≤ L.length) :
    patchbayref4_nameAt.f (k + 3) (mk L) (p : Int) (d : Int) = (patchbayref4_nameAt.f k (mk L) ((p + 1 + m : Nat) : Int) ((d - 1 : Nat) : Int)).bind fun t => if t.2 < 0 then some ([], -1) else if 1 + t.1.length < 8796093022208 then some (mk ((L.drop (p + 1)).take m) :: t.1, t.2) else none := by
  have e1 : wrap64 ((p : Int) + 1) = ((p + 1 : Nat) : Int) := by rw [w64b (by omega) (by omega)]; omega
  have e2 : wrap64 (((p + 1 : Nat) : Int) + (m : Int)) = ((p + 1 + m : Nat) : Int) := by rw [w64b (by omega) (by omega)]; omega
  have e4 : wrap64 ((d : Int) - 1) = ((d - 1 : Nat) : Int) := by rw [w64b (by omega) (by omega)]; omega
  rw [patchbayref4_nameAt.f, if_neg (by omega), if_neg (by rw [mk_size]; omega), beq_eq_false_iff_ne.2 (by omega), patchbayref4_nameAt.j0, if_neg (by simp), if_pos (by omega), if_pos (by rw [mk_size]; omega), bt_mk L p h, hb, w64n m (by omega), if_neg (by omega), if_neg (by omega), if_neg (by omega), e1, e2,
    decide_eq_false (by rw [mk_size]; omega), patchbayref4_nameAt.j1, if_neg (by simp), e1, e2, e4]
  congr 1
  funext t
  by_cases c : t.2 < 0
  · rw [if_pos c, if_pos c]
  · rw [if_neg c, if_neg c, if_pos (by omega), if_pos (by omega), if_pos (by rw [mk_size]; omega), Option.bind_some, Int.toNat_natCast, Int.toNat_natCast, mk_extract, show p + 1 + m - (p + 1) = m by omega]
    rfl
theorem name_ptr {p k : Nat} {d m n : Nat} (hL : L.length ≤ 5000) (hd : 1 ≤ d) (hd2 : d ≤ 100) (h : p + 1 < L.length) (hb : L[p].toNat = 192 + m) (hn : L[p + 1].toNat = n) (ha : m * 256 + n < p) :
    patchbayref4_nameAt.f (k + 2) (mk L) (p : Int) (d : Int) = (patchbayref4_nameAt.f k (mk L) ((m * 256 + n : Nat) : Int) ((d - 1 : Nat) : Int)).bind fun t => if t.2 < 0 then some ([], -1) else some (t.1, ((p + 2 : Nat) : Int)) := by
  have e1 : wrap64 ((p : Int) + 1) = ((p + 1 : Nat) : Int) := by rw [w64b (by omega) (by omega)]; omega
  have e5 : wrap64 ((p : Int) + 2) = ((p + 2 : Nat) : Int) := by rw [w64b (by omega) (by omega)]; omega
  have e4 : wrap64 ((d : Int) - 1) = ((d - 1 : Nat) : Int) := by rw [w64b (by omega) (by omega)]; omega
  have hm : m < 64 := by have := byte_lt L[p]; omega
  have hn2 : n < 256 := by have := byte_lt L[p + 1]; omega
  have e6 : wrap64 (wrap64 (wrap64 (((192 + m : Nat) : Int) - 192) * 256) + (n : Int)) = ((m * 256 + n : Nat) : Int) := by
    rw [w64b (x := ((192 + m : Nat) : Int) - 192) (by omega) (by omega), w64b (x := (((192 + m : Nat) : Int) - 192) * 256) (by omega) (by omega), w64b (by omega) (by omega)]
    omega
  rw [patchbayref4_nameAt.f, if_neg (by omega), if_neg (by rw [mk_size]; omega), beq_eq_false_iff_ne.2 (by omega), patchbayref4_nameAt.j0, if_neg (by simp), if_pos (by omega), if_pos (by rw [mk_size]; omega), bt_mk L p (by omega), hb, w64n (192 + m) (by omega), if_neg (by omega), if_pos (by omega), e1,
    if_neg (by rw [mk_size]; omega), if_pos (by omega), if_pos (by rw [mk_size]; omega), bt_mk L (p + 1) h, hn, w64n n (by omega), e6, if_neg (by omega), e4, e5]
theorem name_at (hL : L.length ≤ 5000) {p nxt z n : Nat} {ls : List (List UInt8)} (h : At L p ls nxt z n) : ∀ (d : Nat), n ≤ d → d ≤ 100 → ls.length ≤ 1000 → Ev (fun k => patchbayref4_nameAt.f k (mk L) (p : Int) (d : Int)) (ls.map mk, (nxt : Int)) := by
  induction h with
  | zero h hb =>
    intro d hd _ _
    exact ⟨2, fun k hk => by obtain ⟨j, rfl⟩ : ∃ j, k = j + 2 := ⟨k - 2, by omega⟩; exact name_zero hL hd h hb⟩
  | lab h hb h1 h2 hl ht t ih =>
    rename_i p x ls nxt z n
    intro d hd hd2 hls
    simp only [List.length_cons] at hls
    obtain ⟨K, hK⟩ := ih (d - 1) (by omega) (by omega) (by omega)
    refine ⟨K + 3, fun k hk => ?_⟩
    obtain ⟨j, rfl⟩ : ∃ j, k = j + 3 := ⟨k - 3, by omega⟩
    have := hK j (by omega)
    simp only [] at this ⊢
    rw [name_lab hL (by omega) hd2 h hb h1 h2 hl, this, Option.bind_some, if_neg (by omega), if_pos (by rw [List.length_map]; omega), ht]
    rfl
  | ptr h hb hc ha ha2 hz t ih =>
    rename_i p a ls nxt z n
    intro d hd hd2 hls
    have e0 : a / 256 * 256 + a % 256 = a := by omega
    obtain ⟨K, hK⟩ := ih (d - 1) (by omega) (by omega) hls
    refine ⟨K + 2, fun k hk => ?_⟩
    obtain ⟨j, rfl⟩ : ∃ j, k = j + 2 := ⟨k - 2, by omega⟩
    have := hK j (by omega)
    simp only [] at this ⊢
    rw [name_ptr hL (by omega) hd2 h hb hc (by omega), e0, this, Option.bind_some, if_neg (by omega)]
end
end Go.Proofs.YtbcocpaeehgmnaaDoor.Pure
