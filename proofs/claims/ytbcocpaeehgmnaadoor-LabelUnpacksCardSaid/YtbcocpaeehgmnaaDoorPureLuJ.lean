/- Decoding ends; what a success says; on packed bytes both decode the names. -/
import Derived.Test.YtbcocpaeehgmnaaDoorPureLuI
namespace Go.Proofs.YtbcocpaeehgmnaaDoor.Pure
open Go.RowKit Go.Proofs.YtbcocpaeehgmnaaDoor.Lp Go.Proofs.YtbcocpaeehgmnaaDoor.Runes Go.Proofs.YtbcocpaeehgmnaaDoorW.PrintWords Go.Proofs.YtbcocpaeehgmnaaDoorW.PrintLast

theorem mid0 : Mid 0 [] [] := ⟨by simp, by simp, fun p hp => by cases hp⟩
/-- Pack ends, whatever the names. -/
theorem Pack_total (X : List ByteArray) : ∃ r, Ev (fun k => label_Pack.f k X) r := by
  by_cases hX : X.length ≤ 256
  · obtain ⟨q, hq, _⟩ := pack_total 200 (Nat.le_refl _) X 0 [] [] (by omega) mid0
    have hE : Ev (fun k => packM k X [] []) q := ev_mono (fun k => packM.mono k X [] []) 200 hq
    have h2 : ∃ r, (if q.2 = 0 then (if q.1.length ≤ 4096 then some (strOfNums q.1, (0 : Int)) else some ((⟨#[]⟩ : ByteArray), 2)) else some ((⟨#[]⟩ : ByteArray), q.2)) = some r := by
      repeat' split
      all_goals exact ⟨_, rfl⟩
    obtain ⟨r, hr⟩ := h2
    refine ⟨r, ?_⟩
    unfold label_Pack.f
    refine Ev.congr (fun k => by rw [if_pos hX]) (Ev.bind (g := fun _ q => if q.2 = 0 then (if q.1.length ≤ 4096 then some (strOfNums q.1, (0 : Int)) else some ((⟨#[]⟩ : ByteArray), 2)) else some ((⟨#[]⟩ : ByteArray), q.2)) hE ?_)
    rw [hr]
    exact Ev.now r
  · refine ⟨((⟨#[]⟩ : ByteArray), 2), Ev.congr (fun k => ?_) (Ev.now _)⟩
    unfold label_Pack.f
    rw [if_neg hX]
/-- A success says that the bytes are the packed names. -/
theorem Pack_says {X : List ByteArray} {S : ByteArray} (hS : S.size ≤ 600) (h : Ev (fun k => label_Pack.f k X) (S, 0)) : X.length ≤ 256 ∧ firstCode X = 0 ∧ (packP X [] []).1.length ≤ 600 ∧ S = strOfNums (packP X [] []).1 := by
  obtain ⟨K, hK⟩ := h
  have h1 := hK (K + 200) (by omega)
  simp only [] at h1
  unfold label_Pack.f at h1
  by_cases hX : X.length ≤ 256
  · rw [if_pos hX] at h1
    obtain ⟨q, hq, h2⟩ := Option.bind_eq_some_iff.mp h1
    obtain ⟨q', hq', hc⟩ := pack_total (K + 200) (by omega) X 0 [] [] (by omega) mid0
    rw [hq] at hq'
    injection hq' with e
    subst e
    by_cases c : q.2 = 0
    · rw [if_pos c] at h2
      by_cases c2 : q.1.length ≤ 4096
      · rw [if_pos c2] at h2
        injection h2 with h2
        injection h2 with h2 _
        have hl : q.1.length ≤ 600 := by rw [← h2, strOfNums_size] at hS; exact hS
        have hz : firstCode X = 0 := by rw [← hc]; exact c
        have he := pack_exact (K + 200) (by omega) X 0 [] [] (by omega) mid0 (fun p hp => by cases hp) hz (by simp) (.inr ⟨q, hq, c, hl⟩)
        rw [hq] at he
        injection he with he
        rw [he] at hl h2
        exact ⟨hX, hz, hl, h2.symm⟩
      · rw [if_neg c2] at h2; injection h2 with h2; injection h2 with _ h2; cases h2
    · rw [if_neg c] at h2; injection h2 with h2; injection h2 with _ h2; exact absurd h2 c
  · rw [if_neg hX] at h1; injection h1 with h1; injection h1 with _ h1; cases h1
theorem Pack_ok {X : List ByteArray} (hX : X.length ≤ 256) (h0 : firstCode X = 0) (hl : (packP X [] []).1.length ≤ 600) : Ev (fun k => label_Pack.f k X) (strOfNums (packP X [] []).1, 0) := by
  refine ⟨200, fun k hk => ?_⟩
  have he := pack_exact k hk X 0 [] [] (by omega) mid0 (fun p hp => by cases hp) h0 (by simp) (.inl hl)
  simp only []
  unfold label_Pack.f
  rw [if_pos hX, he, Option.bind_some, packP_code, if_pos h0, if_pos (by omega)]
theorem join_short {n : Nat} (hn : n ≤ 1000) {l : List ByteArray} (h : Short n l) : ∃ t, label_join.f l = some t := by
  obtain ⟨ls, h1, h2, h3⟩ := h
  exact ⟨_, by rw [h1]; exact join_at ls (by omega) h3⟩
theorem nameOf_short {n : Nat} (hn : n ≤ 1000) {l : List ByteArray} (h : Short n l) : ∃ t, Ev (fun k => patchbayref4_NameOf.f k l) t := by
  obtain ⟨ls, h1, h2, h3⟩ := h
  exact ⟨_, ⟨1001, fun k hk => by rw [h1]; exact nameOf_at ls (by omega) h3 k (by omega)⟩⟩
section
variable {L : List UInt8}
theorem unpack_total (hL : L.length ≤ 600) : ∀ (d p : Nat) (x4 : List ByteArray), L.length ≤ p + d → x4.length ≤ p →
    ∃ r, Ev (fun k => label_Unpack.l0 k (mk L) x4 (p : Int)) r ∧ (r = ([], 3) ∨ (r.2 = 0 ∧ Ev (fun k => label_Pack.f k r.1) (mk L, 0))) := by
  intro d
  induction d with
  | zero =>
    intro p x4 hp hx
    obtain ⟨⟨t, c⟩, ht⟩ := Pack_total x4
    have hh : ∃ r, Ev (fun k => (label_Pack.f k x4).bind fun bt => if bt.2 = 0 then (if bt.1.toList = (mk L).toList then some (x4, (0 : Int)) else some (([] : List ByteArray), 3)) else some (([] : List ByteArray), 3)) r ∧ (r = ([], 3) ∨ (r.2 = 0 ∧ Ev (fun k => label_Pack.f k r.1) (mk L, 0))) := by
      by_cases c0 : c = 0
      · by_cases c1 : t.toList = (mk L).toList
        · refine ⟨(x4, 0), Ev.bind ht ?_, .inr ⟨rfl, ?_⟩⟩
          · simp only []; rw [if_pos c0, if_pos c1]; exact Ev.now _
          · rw [← toList_inj c1, ← c0]; exact ht
        · refine ⟨([], 3), Ev.bind ht ?_, .inl rfl⟩
          simp only []; rw [if_pos c0, if_neg c1]; exact Ev.now _
      · refine ⟨([], 3), Ev.bind ht ?_, .inl rfl⟩
        simp only []; rw [if_neg c0]; exact Ev.now _
    obtain ⟨r, hr, hr2⟩ := hh
    exact ⟨r, Ev.step (fun k => by rw [label_Unpack.l0, if_neg (by rw [mk_size]; omega)]) hr, hr2⟩
  | succ d ih =>
    intro p x4 hp hx
    by_cases hlt : p < L.length
    · obtain ⟨⟨tl, tn⟩, ht, htr⟩ := take_total (L := L) (by omega) 20 0 p [] (-1) rfl (Short.nil 0) (.inl rfl) (by omega)
      have ht2 : Ev (fun k => label_take.f k (mk L) (p : Int)) (tl, tn) := ht
      rcases htr with htr | ⟨hs, hu, hn⟩
      · refine ⟨([], 3), Ev.step (f := fun k => (label_take.f k (mk L) (p : Int)).bind fun bt => if bt.2 < 0 then some (([] : List ByteArray), (3 : Int)) else (label_join.f bt.1).bind fun t => if x4.length < 8796093022208 then label_Unpack.l0 k (mk L) (x4 ++ [t]) bt.2 else none) (fun k => ?_) (Ev.bind ht2 ?_), .inl rfl⟩
        · rw [label_Unpack.l0, if_pos (by rw [mk_size]; omega)]
        · exact Ev.congr (fun k => if_pos htr) (Ev.now _)
      · rw [if_pos rfl] at hn
        simp only [] at hn hu hs
        obtain ⟨t, hj⟩ := join_short (by omega) hs
        obtain ⟨m, hm⟩ := Int.eq_ofNat_of_zero_le (show 0 ≤ tn by omega)
        obtain ⟨r, hr, hr2⟩ := ih m (x4 ++ [t]) (by omega) (by simp; omega)
        refine ⟨r, Ev.step (f := fun k => (label_take.f k (mk L) (p : Int)).bind fun bt => if bt.2 < 0 then some (([] : List ByteArray), (3 : Int)) else (label_join.f bt.1).bind fun t => if x4.length < 8796093022208 then label_Unpack.l0 k (mk L) (x4 ++ [t]) bt.2 else none) (fun k => ?_) (Ev.bind ht2 ?_), hr2⟩
        · rw [label_Unpack.l0, if_pos (by rw [mk_size]; omega)]
        · refine Ev.congr (fun k => ?_) hr
          simp only []
          rw [if_neg (by omega), hj, Option.bind_some, if_pos (by omega), hm]
    · exact ih p x4 (by omega) hx
theorem l1_bad (X : List ByteArray) (hX : X.length ≤ 100000) (Y : List ByteArray) : ∀ (d i : Nat), i + d = X.length → firstCode (X.drop i) ≠ 0 → Ev (fun k => patchbayref4_UnpackNames.l1 k (mk L) Y X (X.length : Int) (i : Int)) ([], false) := by
  intro d
  induction d with
  | zero => intro i hi h; rw [List.drop_eq_nil_of_le (by omega)] at h; exact absurd rfl h
  | succ d ih =>
    intro i hi h
    have hlt : i < X.length := by omega
    rw [List.drop_eq_getElem_cons hlt, firstCode] at h
    have e3 : wrap64 ((i : Int) + 1) = ((i + 1 : Nat) : Int) := by rw [w64b (by omega) (by omega)]; omega
    refine Ev.step (f := fun k => (patchbayref4_LabelsOf.f k X[i]).bind fun bt => if bt.2 = 0 then patchbayref4_UnpackNames.l1 k (mk L) Y X (X.length : Int) ((i + 1 : Nat) : Int) else some (([] : List ByteArray), false)) (fun k => ?_) (Ev.bind (ref_of X[i]) ?_)
    · rw [patchbayref4_UnpackNames.l1, if_pos (by omega), if_pos (by omega), if_pos (by omega), rdOf_nat X i hlt, e3]
    · by_cases c : (labs X[i]).2 = 0
      · rw [if_pos c] at h
        exact Ev.congr (fun k => if_pos c) (ih (i + 1) (by omega) h)
      · exact Ev.congr (fun k => if_neg c) (Ev.now _)
theorem l1_end_ (X : List ByteArray) (hX : X.length ≤ 100000) (Y : List ByteArray) (res : List ByteArray × Bool) (he : Ev (fun k => if (Y.length : Int) ≤ 256 then (if ((mk L).size : Int) ≤ 4096 then ((patchbayref4_PackNames.f k Y).bind fun t222 => (some (Y, (t222.toList == (mk L).toList)))) else (some (Y, false))) else (some (Y, false))) res) : ∀ (d i : Nat), i + d = X.length → firstCode (X.drop i) = 0 → Ev (fun k => patchbayref4_UnpackNames.l1 k (mk L) Y X (X.length : Int) (i : Int)) res := by
  intro d
  induction d with
  | zero => intro i hi h; exact Ev.step (fun k => by rw [patchbayref4_UnpackNames.l1, if_neg (by omega)]) he
  | succ d ih =>
    intro i hi h
    have hlt : i < X.length := by omega
    rw [List.drop_eq_getElem_cons hlt, firstCode] at h
    have e3 : wrap64 ((i : Int) + 1) = ((i + 1 : Nat) : Int) := by rw [w64b (by omega) (by omega)]; omega
    refine Ev.step (f := fun k => (patchbayref4_LabelsOf.f k X[i]).bind fun bt => if bt.2 = 0 then patchbayref4_UnpackNames.l1 k (mk L) Y X (X.length : Int) ((i + 1 : Nat) : Int) else some (([] : List ByteArray), false)) (fun k => ?_) (Ev.bind (ref_of X[i]) ?_)
    · rw [patchbayref4_UnpackNames.l1, if_pos (by omega), if_pos (by omega), if_pos (by omega), rdOf_nat X i hlt, e3]
    · by_cases c : (labs X[i]).2 = 0
      · rw [if_pos c] at h
        exact Ev.congr (fun k => if_pos c) (ih (i + 1) (by omega) h)
      · rw [if_neg c] at h; exact absurd h c
theorem PackNames_ok (X : List ByteArray) (hX : X.length ≤ 256) (h0 : firstCode X = 0) : Ev (fun k => patchbayref4_PackNames.f k X) (strOfNums (packP X [] []).1) := names_at X hX X.length 0 [] [] (by omega) mid0 h0
/-- What the reference's last step says. -/
theorem names_end (hL : L.length ≤ 600) (X : List ByteArray) (hX : X.length ≤ 100000) : ∃ r, Ev (fun k => patchbayref4_UnpackNames.l1 k (mk L) X X (X.length : Int) 0) r ∧ (r.2 = false ∨ (r = (X, true) ∧ firstCode X = 0 ∧ X.length ≤ 256 ∧ mk L = strOfNums (packP X [] []).1)) := by
  by_cases c : firstCode X = 0
  · by_cases hl : X.length ≤ 256
    · have h := l1_end_ (L := L) X hX X (X, (strOfNums (packP X [] []).1).toList == (mk L).toList) (Ev.congr (fun k => by rw [if_pos (by omega), if_pos (by rw [mk_size]; omega)]) (Ev.bind (PackNames_ok X hl c) (Ev.now _))) X.length 0 (by omega) c
      refine ⟨_, h, ?_⟩
      cases hb : ((strOfNums (packP X [] []).1).toList == (mk L).toList) with
      | true => exact .inr ⟨rfl, c, hl, (toList_inj (eq_of_beq hb)).symm⟩
      | false => exact .inl rfl
    · exact ⟨(X, false), l1_end_ (L := L) X hX X _ (Ev.congr (fun k => if_neg (by omega)) (Ev.now _)) X.length 0 (by omega) c, .inl rfl⟩
  · exact ⟨_, l1_bad (L := L) X hX X X.length 0 (by omega) c, .inl rfl⟩
theorem names_total (hL : L.length ≤ 600) : ∀ (d p : Nat) (x4 : List ByteArray), L.length ≤ p + d → x4.length ≤ p → p ≤ 6000 →
    ∃ r, Ev (fun k => patchbayref4_UnpackNames.l0 k (mk L) x4 (p : Int)) r ∧ (r.2 = false ∨ (r.2 = true ∧ firstCode r.1 = 0 ∧ r.1.length ≤ 256 ∧ mk L = strOfNums (packP r.1 [] []).1)) := by
  intro d
  induction d with
  | zero =>
    intro p x4 hp hx hp6
    obtain ⟨r, hr, h⟩ := names_end hL x4 (by omega)
    refine ⟨r, Ev.step (fun k => by rw [patchbayref4_UnpackNames.l0, if_neg (by rw [mk_size]; omega)]) hr, h.imp id ?_⟩
    rintro ⟨e, h1, h2, h3⟩
    subst e
    exact ⟨rfl, h1, h2, h3⟩
  | succ d ih =>
    intro p x4 hp hx hp6
    by_cases hlt : p < L.length
    · obtain ⟨⟨tl, tn⟩, ht, htr⟩ := name_total (L := L) (by omega) 40 p (by omega)
      rcases htr with htr | ⟨hs, hu, hn⟩
      · refine ⟨([], false), Ev.step (f := fun k => (patchbayref4_nameAt.f k (mk L) (p : Int) 40).bind fun bt => if bt.2 < 0 then some (([] : List ByteArray), false) else (patchbayref4_NameOf.f k bt.1).bind fun t => if x4.length < 8796093022208 then patchbayref4_UnpackNames.l0 k (mk L) (x4 ++ [t]) bt.2 else none) (fun k => ?_) (Ev.bind ht ?_), .inl rfl⟩
        · rw [patchbayref4_UnpackNames.l0, if_pos (by rw [mk_size]; omega)]
        · exact Ev.congr (fun k => if_pos htr) (Ev.now _)
      · simp only [] at hn hu hs
        obtain ⟨t, hj⟩ := nameOf_short (by omega) hs
        obtain ⟨m, hm⟩ := Int.eq_ofNat_of_zero_le (show 0 ≤ tn by omega)
        obtain ⟨r, hr, hr2⟩ := ih m (x4 ++ [t]) (by omega) (by simp; omega) (by omega)
        refine ⟨r, Ev.step (f := fun k => (patchbayref4_nameAt.f k (mk L) (p : Int) 40).bind fun bt => if bt.2 < 0 then some (([] : List ByteArray), false) else (patchbayref4_NameOf.f k bt.1).bind fun t => if x4.length < 8796093022208 then patchbayref4_UnpackNames.l0 k (mk L) (x4 ++ [t]) bt.2 else none) (fun k => ?_) (Ev.bind ht ?_), hr2⟩
        · rw [patchbayref4_UnpackNames.l0, if_pos (by rw [mk_size]; omega)]
        · refine Ev.congr (fun k => if_neg (show ¬ tn < 0 by omega)) (Ev.bind hj (Ev.congr (fun k => ?_) hr))
          rw [if_pos (by omega), hm]
    · exact ih p x4 (by omega) hx hp6
end
end Go.Proofs.YtbcocpaeehgmnaaDoor.Pure
