/- The reference packs as the program does. -/
import Derived.Test.YtbcocpaeehgmnaaDoorPureLuD
namespace Go.Proofs.YtbcocpaeehgmnaaDoor.Pure
open Go.RowKit Go.Proofs.YtbcocpaeehgmnaaDoor.Lp Go.Proofs.YtbcocpaeehgmnaaDoor.Runes Go.Proofs.YtbcocpaeehgmnaaDoorW.PrintWords Go.Proofs.YtbcocpaeehgmnaaDoorW.PrintLast

theorem toList_inj {a b : ByteArray} (h : a.toList = b.toList) : a = b := by
  have e : ∀ c : ByteArray, mk c.toList = c := fun c => by
    have := mk_toList c.data.toList
    rw [mk_of] at this
    rw [this, mk_of]
  rw [← e a, ← e b, h]
theorem look_cons (p : ByteArray × Int) (r : List (ByteArray × Int)) (s : ByteArray) : Lp.look (p :: r) s = if p.1 = s then some p.2 else Lp.look r s := by
  unfold Lp.look
  rw [List.find?_cons]
  by_cases h : p.1 = s
  · rw [if_pos h, decide_eq_true h]; rfl
  · rw [if_neg h, decide_eq_false h]
theorem rdOf_key (kn : List (ByteArray × Int)) (j : Nat) (h : j < kn.length) : rdOf ByteArray.empty (kn.map (·.1)) (j : Int) = kn[j].1 := by
  unfold rdOf
  rw [Int.toNat_natCast, List.getD_eq_getElem?_getD, List.getElem?_map, List.getElem?_eq_getElem h]
  rfl
theorem rd_val (kn : List (ByteArray × Int)) (j : Nat) (h : j < kn.length) : rd (kn.map (·.2)) (j : Int) = kn[j].2 := by
  unfold rd
  rw [Int.toNat_natCast, List.getD_eq_getElem?_getD, List.getElem?_map, List.getElem?_eq_getElem h]
  rfl
section
variable {res : ByteArray} {x3 : ByteArray} {kn : List (ByteArray × Int)} {x8 x14 : List ByteArray} {x12 : ByteArray} {x15 x16 : Int} {i : Nat}
theorem l2_some (hs : x3.size ≤ 100000) (hl : kn.length ≤ 10000) (hi : i ≤ 100) : ∀ (d j : Nat) (a : Int), j + d = kn.length → Lp.look (kn.drop j) x12 = some a →
    Ev (fun k => patchbayref4_PackNames.l1 k (x3 ++ strOfNums (ptr a)) (kn.map (·.1)) (kn.map (·.2)) x8 true ((i + 1 : Nat) : Int) x14 x15 x16) res →
    Ev (fun k => patchbayref4_PackNames.l2 k x3 (kn.map (·.1)) (kn.map (·.2)) x8 false (i : Int) x12 x14 x15 x16 (kn.length : Int) (j : Int)) res := by
  intro d
  induction d with
  | zero =>
    intro j a hj h _
    rw [List.drop_eq_nil_of_le (by omega)] at h
    cases h
  | succ d ih =>
    intro j a hj h hE
    have hlt : j < kn.length := by omega
    rw [List.drop_eq_getElem_cons hlt, look_cons] at h
    by_cases c : kn[j].1 = x12
    · rw [if_pos c] at h
      injection h with h
      refine Ev.step (fun k => ?_) hE
      rw [patchbayref4_PackNames.l2, if_pos (by omega), if_pos (by omega), if_pos (by rw [List.length_map]; omega), rdOf_key kn j hlt, if_pos (by rw [c]), if_pos (by rw [List.length_map]; omega), rd_val kn j hlt, Option.bind_some]
      have e3 : wrap64 ((i : Int) + 1) = ((i + 1 : Nat) : Int) := by rw [w64b (by omega) (by omega)]; omega
      rw [e3, h, if_pos (by rw [strOfNums_size]; simp only [List.length_cons, List.length_nil]; omega)]
      rfl
    · rw [if_neg c] at h
      refine Ev.step (fun k => ?_) (ih (j + 1) a (by omega) h hE)
      rw [patchbayref4_PackNames.l2, if_pos (by omega), if_pos (by omega), if_pos (by rw [List.length_map]; omega), rdOf_key kn j hlt, if_neg (fun e => c (toList_inj e))]
      have e3 : wrap64 ((j : Int) + 1) = ((j + 1 : Nat) : Int) := by rw [w64b (by omega) (by omega)]; omega
      rw [e3]
theorem l2_none (hs : x3.size ≤ 100000) (hl : kn.length ≤ 10000) (hi : i < x8.length) (hi2 : i ≤ 100) (hx : (rdOf ByteArray.empty x8 (i : Int)).size ≤ 200) : ∀ (d j : Nat), j + d = kn.length → Lp.look (kn.drop j) x12 = none →
    Ev (fun k => patchbayref4_PackNames.l1 k (x3 ++ ((strOfNums [((rdOf ByteArray.empty x8 (i : Int)).size : Int)]) ++ rdOf ByteArray.empty x8 (i : Int))) (kn.map (·.1) ++ [x12]) (kn.map (·.2) ++ [(x3.size : Int)]) x8 false ((i + 1 : Nat) : Int) x14 x15 x16) res →
    Ev (fun k => patchbayref4_PackNames.l2 k x3 (kn.map (·.1)) (kn.map (·.2)) x8 false (i : Int) x12 x14 x15 x16 (kn.length : Int) (j : Int)) res := by
  intro d
  induction d with
  | zero =>
    intro j hj h hE
    refine Ev.step (fun k => ?_) hE
    have e1 : ((rdOf ByteArray.empty x8 (i : Int)).size : Int) % 256 = ((rdOf ByteArray.empty x8 (i : Int)).size : Int) := by omega
    have e3 : wrap64 ((i : Int) + 1) = ((i + 1 : Nat) : Int) := by rw [w64b (by omega) (by omega)]; omega
    rw [patchbayref4_PackNames.l2, if_neg (by omega), if_neg (by simp), if_pos (by rw [List.length_map]; omega), if_pos (by rw [List.length_map]; omega), if_pos (by omega), if_pos (by omega), Option.bind_some, e1]
    have e4 : (strOfNums [((rdOf ByteArray.empty x8 (i : Int)).size : Int)]).size = 1 := by rw [strOfNums_size]; rfl
    rw [if_pos (by rw [e4]; omega), if_pos (by rw [ByteArray.size_append, e4]; omega), e3]
  | succ d ih =>
    intro j hj h hE
    have hlt : j < kn.length := by omega
    rw [List.drop_eq_getElem_cons hlt, look_cons] at h
    by_cases c : kn[j].1 = x12
    · rw [if_pos c] at h; cases h
    · rw [if_neg c] at h
      refine Ev.step (fun k => ?_) (ih (j + 1) (by omega) h hE)
      rw [patchbayref4_PackNames.l2, if_pos (by omega), if_pos (by omega), if_pos (by rw [List.length_map]; omega), rdOf_key kn j hlt, if_neg (fun e => c (toList_inj e))]
      have e3 : wrap64 ((j : Int) + 1) = ((j + 1 : Nat) : Int) := by rw [w64b (by omega) (by omega)]; omega
      rw [e3]
theorem l1_true {x4 : List ByteArray} {x5 : List Int} {x11 : Int} (h : Ev (fun k => patchbayref4_PackNames.l0 k x3 x4 x5 x14 x15 (wrap64 (x16 + 1))) res) : Ev (fun k => patchbayref4_PackNames.l1 k x3 x4 x5 x8 true x11 x14 x15 x16) res := by
  refine Ev.step (f := fun k => patchbayref4_PackNames.j2 k x3 x4 x5 x8 true x11 x14 x15 x16 false) (fun k => ?_) (Ev.step (fun k => ?_) h)
  · rw [patchbayref4_PackNames.l1]
    simp
  · rw [patchbayref4_PackNames.j2, if_neg (by simp), if_pos rfl]
theorem l1_end {x4 : List ByteArray} {x5 : List Int} {x11 : Int} (hs : x3.size ≤ 100000) (hx : ¬ x11 < (x8.length : Int)) (h : Ev (fun k => patchbayref4_PackNames.l0 k (x3 ++ (⟨#[0]⟩ : ByteArray)) x4 x5 x14 x15 (wrap64 (x16 + 1))) res) :
    Ev (fun k => patchbayref4_PackNames.l1 k x3 x4 x5 x8 false x11 x14 x15 x16) res := by
  refine Ev.step (f := fun k => patchbayref4_PackNames.j2 k x3 x4 x5 x8 false x11 x14 x15 x16 false) (fun k => ?_) (Ev.step (fun k => ?_) h)
  · rw [patchbayref4_PackNames.l1, if_neg hx]
  · rw [patchbayref4_PackNames.j2, if_neg (by simp), if_neg (by simp), if_pos (by omega)]
theorem l1_go {x4 : List ByteArray} {x5 : List Int} {nm : ByteArray} (hi : i < x8.length) (hn : Ev (fun k => patchbayref4_NameOf.f k (x8.drop i)) nm)
    (h : Ev (fun k => patchbayref4_PackNames.l2 k x3 x4 x5 x8 false (i : Int) nm x14 x15 x16 (x4.length : Int) 0) res) : Ev (fun k => patchbayref4_PackNames.l1 k x3 x4 x5 x8 false (i : Int) x14 x15 x16) res := by
  refine Ev.step (f := fun k => patchbayref4_PackNames.j2 k x3 x4 x5 x8 false (i : Int) x14 x15 x16 true) (fun k => ?_) (Ev.step (f := fun k => (patchbayref4_NameOf.f k (x8.drop i)).bind fun t => patchbayref4_PackNames.l2 k x3 x4 x5 x8 false (i : Int) t x14 x15 x16 (x4.length : Int) 0) (fun k => ?_) (Ev.bind hn h))
  · rw [patchbayref4_PackNames.l1, if_pos (by omega)]
    rfl
  · rw [patchbayref4_PackNames.j2, if_pos rfl, if_pos (by omega), if_pos (by omega), Int.toNat_natCast]
end
theorem zero_byte : (⟨#[0]⟩ : ByteArray) = strOfNums [0] := by rfl
theorem l1_at {res : ByteArray} {x14 : List ByteArray} {x15 x16 : Int} (L : List (List UInt8)) (hL : L.length ≤ 100) : ∀ (l : List (List UInt8)) (i : Nat) (o : List Int) (kn : List (ByteArray × Int)), L.drop i = l → Inv l o kn →
    Ev (fun k => patchbayref4_PackNames.l0 k (strOfNums (putP l o kn).1) ((putP l o kn).2.map (·.1)) ((putP l o kn).2.map (·.2)) x14 x15 (wrap64 (x16 + 1))) res →
    Ev (fun k => patchbayref4_PackNames.l1 k (strOfNums o) (kn.map (·.1)) (kn.map (·.2)) (L.map mk) false (i : Int) x14 x15 x16) res := by
  intro l
  induction l with
  | nil =>
    intro i o kn hd h hE
    have hi : L.length ≤ i := by have := congrArg List.length hd; rw [List.length_drop] at this; simp at this; omega
    have h3 := h.out
    refine l1_end (by rw [strOfNums_size]; omega) (by rw [List.length_map]; omega) ?_
    rw [zero_byte, strOfNums_append]
    rw [putP] at hE
    exact hE
  | cons x r ih =>
    intro i o kn hd h hE
    have hi : i < L.length := by
      rcases Nat.lt_or_ge i L.length with hi | hi
      · exact hi
      · rw [List.drop_eq_nil_of_le hi] at hd; cases hd
    rw [List.drop_eq_getElem_cons hi] at hd
    injection hd with hx hr
    have h3 := h.out
    have hdm : (L.map mk).drop i = (x :: r).map mk := by rw [← List.map_drop, List.drop_eq_getElem_cons hi, hx, hr]
    have hrd : rdOf ByteArray.empty (L.map mk) (i : Int) = mk x := by rw [rd_at L i hi, hx]
    have hxs := h.each x List.mem_cons_self
    refine l1_go (nm := mk (nameL (x :: r))) (by rw [List.length_map]; exact hi) ?_ ?_
    · rw [hdm]
      exact ⟨102, fun k hk => nameOf_at (x :: r) (by have := h.few; omega) h.each k (by have := h.few; omega)⟩
    · rw [putP] at hE
      rw [List.length_map]
      cases hk : Lp.look kn (mk (nameL (x :: r))) with
      | some a =>
        rw [hk] at hE
        simp only [] at hE
        refine l2_some (by rw [strOfNums_size]; omega) (by have := h.known; omega) (by omega) kn.length 0 a (by omega) hk ?_
        refine l1_true ?_
        rw [strOfNums_append]
        exact hE
      | none =>
        rw [hk] at hE
        simp only [] at hE
        refine l2_none (by rw [strOfNums_size]; omega) (by have := h.known; omega) (by rw [List.length_map]; exact hi) (by omega) (by rw [hrd, mk_size]; omega) kn.length 0 (by omega) hk ?_
        have e := ih (i + 1) _ _ hr (inv_next (nm := mk (nameL (x :: r))) h) hE
        rw [hrd, mk_size, strOfNums_size]
        rw [List.map_append, List.map_append, ← strOfNums_append, ← strOfNums_append, strOfNums_bytes, ByteArray.append_assoc] at e
        exact e
end Go.Proofs.YtbcocpaeehgmnaaDoor.Pure
