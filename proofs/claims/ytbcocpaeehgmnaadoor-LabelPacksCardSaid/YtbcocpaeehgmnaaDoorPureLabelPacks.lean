/- The plain law of LabelPacks. -/
import Derived.Test.YtbcocpaeehgmnaaDoorPureLpE
namespace Go.Proofs.YtbcocpaeehgmnaaDoor.Pure
open Go.RowKit Go.Proofs.YtbcocpaeehgmnaaDoor.Lp Go.Proofs.YtbcocpaeehgmnaaDoor.Runes Go.Proofs.YtbcocpaeehgmnaaDoorW.PrintWords Go.Proofs.YtbcocpaeehgmnaaDoorW.PrintLast

def labs (s : ByteArray) : List (List UInt8) × Int := labelsL s.data.toList
theorem labels_of (s : ByteArray) (k : Nat) (hk : 200 ≤ k) : label_Labels.f k s = some ((labs s).1.map mk, (labs s).2) := by have := labels_at s.data.toList k hk; rwa [mk_of] at this
theorem ref_of (s : ByteArray) : Ev (fun k => patchbayref4_LabelsOf.f k s) ((labs s).1.map mk, (labs s).2) := ⟨300, fun k hk => by have := ref_at s.data.toList k hk; rwa [mk_of] at this⟩
def packP : List ByteArray → List Int → List (ByteArray × Int) → List Int × Int
  | [], o, _ => (o, 0)
  | s :: r, o, kn => if (labs s).2 = 0 then packP r (putP (labs s).1 o kn).1 (putP (labs s).1 o kn).2 else ([], (labs s).2)
def firstCode : List ByteArray → Int
  | [] => 0
  | s :: r => if (labs s).2 = 0 then firstCode r else (labs s).2
theorem packP_code : ∀ (l : List ByteArray) (o : List Int) (kn : List (ByteArray × Int)), (packP l o kn).2 = firstCode l := by
  intro l
  induction l with
  | nil => intro o kn; rfl
  | cons s r ih =>
    intro o kn
    rw [packP, firstCode]
    by_cases c : (labs s).2 = 0
    · rw [if_pos c, if_pos c]; exact ih _ _
    · rw [if_neg c, if_neg c]
theorem packP_bad : ∀ (l : List ByteArray) (o : List Int) (kn : List (ByteArray × Int)), firstCode l ≠ 0 → (packP l o kn).1 = [] := by
  intro l
  induction l with
  | nil => intro o kn h; exact absurd rfl h
  | cons s r ih =>
    intro o kn h
    rw [firstCode] at h
    rw [packP]
    by_cases c : (labs s).2 = 0
    · rw [if_pos c] at h ⊢; exact ih _ _ h
    · rw [if_neg c]
/-- Between two names. -/
structure Mid (m : Nat) (o : List Int) (kn : List (ByteArray × Int)) : Prop where
  out : o.length ≤ 82 * m
  known : kn.length ≤ 8 * m
  offs : ∀ p ∈ kn, 0 ≤ p.2 ∧ p.2 ≤ 4000
theorem mid_inv {m : Nat} {o : List Int} {kn : List (ByteArray × Int)} (h : Mid m o kn) (hm : m < 30) (s : ByteArray) (hs : (labs s).2 = 0) : Inv (labs s).1 o kn := by
  have h1 := labels_facts s.data.toList
  have h2 := flat_short s.data.toList hs
  have h3 := h.out
  have h4 := h.known
  have h5 : (labs s).1.length ≤ 8 := h1.1
  have h6 : (flat (labs s).1).length ≤ 80 := h2
  exact ⟨by omega, h1.2, by omega, by omega, h.offs⟩
theorem mid_next {m : Nat} {o : List Int} {kn : List (ByteArray × Int)} (h : Mid m o kn) (hm : m < 30) (s : ByteArray) (hs : (labs s).2 = 0) : Mid (m + 1) (putP (labs s).1 o kn).1 (putP (labs s).1 o kn).2 := by
  have h1 := labels_facts s.data.toList
  have h2 := flat_short s.data.toList hs
  have h5 : (labs s).1.length ≤ 8 := h1.1
  have h6 : (flat (labs s).1).length ≤ 80 := h2
  obtain ⟨f1, f2, f3⟩ := putP_facts _ o kn (mid_inv h hm s hs)
  have h3 := h.out
  have h4 := h.known
  exact ⟨by omega, by omega, f3⟩
theorem pack_at (k : Nat) (hk : 200 ≤ k) : ∀ (l : List ByteArray) (m : Nat) (o : List Int) (kn : List (ByteArray × Int)), m + l.length ≤ 30 → Mid m o kn → packM k l o kn = some (packP l o kn) ∧ (firstCode l = 0 → (packP l o kn).1.length ≤ 2460) := by
  intro l
  induction l with
  | nil => intro m o kn hm h; rw [packM, packP]; exact ⟨rfl, fun _ => by have := h.out; simp only [List.length_nil] at hm; simp only []; omega⟩
  | cons s r ih =>
    intro m o kn hm h
    simp only [List.length_cons] at hm
    rw [packM, packP, firstCode, labels_of s k hk, Option.bind_some]
    by_cases c : (labs s).2 = 0
    · have hI := mid_inv h (by omega) s c
      rw [if_pos c, if_pos c, if_pos (show (List.map mk (labs s).1, (labs s).2).2 = 0 from c), if_pos (by rw [List.length_map]; have := hI.few; omega), put_at _ o kn hI, Option.bind_some]
      exact ih (m + 1) _ _ (by omega) (mid_next h (by omega) s c)
    · rw [if_neg c, if_neg c, if_neg (show ¬ (List.map mk (labs s).1, (labs s).2).2 = 0 from c)]
      exact ⟨rfl, fun h0 => absurd h0 c⟩
theorem rdOf_nat (l : List ByteArray) (i : Nat) (h : i < l.length) : rdOf ByteArray.empty l (i : Int) = l[i] := by
  unfold rdOf
  rw [Int.toNat_natCast, List.getD_eq_getElem?_getD, List.getElem?_eq_getElem h]
  rfl
theorem names_at (X : List ByteArray) (hX : X.length ≤ 30) : ∀ (d i : Nat) (o : List Int) (kn : List (ByteArray × Int)), i + d = X.length → Mid i o kn → firstCode (X.drop i) = 0 →
    Ev (fun k => patchbayref4_PackNames.l0 k (strOfNums o) (kn.map (·.1)) (kn.map (·.2)) X (X.length : Int) (i : Int)) (strOfNums (packP (X.drop i) o kn).1) := by
  intro d
  induction d with
  | zero =>
    intro i o kn hi h h0
    rw [List.drop_eq_nil_of_le (by omega), packP]
    refine Ev.step (fun k => ?_) (Ev.now _)
    rw [patchbayref4_PackNames.l0, if_neg (by omega)]
  | succ d ih =>
    intro i o kn hi h h0
    have hlt : i < X.length := by omega
    rw [List.drop_eq_getElem_cons hlt] at h0 ⊢
    rw [firstCode] at h0
    rw [packP]
    by_cases c : (labs X[i]).2 = 0
    · rw [if_pos c] at h0 ⊢
      have hI := mid_inv h (by omega) X[i] c
      have hn := ih (i + 1) _ _ (by omega) (mid_next h (by omega) X[i] c) h0
      refine Ev.step (f := fun k => (patchbayref4_LabelsOf.f k X[i]).bind fun t => patchbayref4_PackNames.l1 k (strOfNums o) (kn.map (·.1)) (kn.map (·.2)) t.1 false 0 X (X.length : Int) (i : Int)) (fun k => ?_) (Ev.bind (ref_of X[i]) ?_)
      · rw [patchbayref4_PackNames.l0, if_pos (by omega), if_pos (by omega), if_pos (by omega), rdOf_nat X i hlt]
      · refine l1_at (labs X[i]).1 hI.few (labs X[i]).1 0 o kn rfl hI ?_
        have e3 : wrap64 ((i : Int) + 1) = ((i + 1 : Nat) : Int) := by rw [w64b (by omega) (by omega)]; omega
        rw [e3]
        exact hn
    · rw [if_neg c] at h0; exact absurd h0 c
theorem beq_refl_list (l : List UInt8) : (l == l) = true := by simp
theorem law_ok (X : List ByteArray) (hX : X.length ≤ 30) (p : ByteArray) (hp : Ev (fun k => patchbayref4_PackNames.f k X) p) : ∀ (d i : Nat), i + d = X.length → firstCode (X.drop i) = 0 →
    Ev (fun k => patchbaylaw4_LabelPacks.l0 k X p 0 X (X.length : Int) (i : Int)) true := by
  intro d
  induction d with
  | zero =>
    intro i hi h0
    refine Ev.step (f := fun k => (patchbayref4_PackNames.f k X).bind fun t => some (p.toList == t.toList)) (fun k => ?_) (Ev.bind hp ?_)
    · rw [patchbaylaw4_LabelPacks.l0, if_neg (by omega), if_pos rfl]
    · rw [beq_refl_list]; exact Ev.now true
  | succ d ih =>
    intro i hi h0
    have hlt : i < X.length := by omega
    rw [List.drop_eq_getElem_cons hlt, firstCode] at h0
    by_cases c : (labs X[i]).2 = 0
    · rw [if_pos c] at h0
      refine Ev.step (f := fun k => (patchbayref4_LabelsOf.f k X[i]).bind fun t => if t.2 = 0 then patchbaylaw4_LabelPacks.l0 k X p 0 X (X.length : Int) (wrap64 ((i : Int) + 1)) else if (0 : Int) = t.2 then some (p.toList == ([] : List UInt8)) else some false) (fun k => ?_) (Ev.bind (ref_of X[i]) ?_)
      · rw [patchbaylaw4_LabelPacks.l0, if_pos (by omega), if_pos (by omega), if_pos (by omega), rdOf_nat X i hlt]
      · have e3 : wrap64 ((i : Int) + 1) = ((i + 1 : Nat) : Int) := by rw [w64b (by omega) (by omega)]; omega
        refine Ev.congr (fun k => ?_) (ih (i + 1) (by omega) h0)
        rw [if_pos (show (List.map mk (labs X[i]).1, (labs X[i]).2).2 = 0 from c), e3]
    · rw [if_neg c] at h0; exact absurd h0 c
theorem law_bad (X : List ByteArray) (hX : X.length ≤ 30) (e : Int) (he : e ≠ 0) : ∀ (d i : Nat), i + d = X.length → firstCode (X.drop i) = e →
    Ev (fun k => patchbaylaw4_LabelPacks.l0 k X (⟨#[]⟩ : ByteArray) e X (X.length : Int) (i : Int)) true := by
  intro d
  induction d with
  | zero =>
    intro i hi h0
    rw [List.drop_eq_nil_of_le (by omega), firstCode] at h0
    exact absurd h0.symm he
  | succ d ih =>
    intro i hi h0
    have hlt : i < X.length := by omega
    rw [List.drop_eq_getElem_cons hlt, firstCode] at h0
    refine Ev.step (f := fun k => (patchbayref4_LabelsOf.f k X[i]).bind fun t => if t.2 = 0 then patchbaylaw4_LabelPacks.l0 k X (⟨#[]⟩ : ByteArray) e X (X.length : Int) (wrap64 ((i : Int) + 1)) else if e = t.2 then some ((⟨#[]⟩ : ByteArray).toList == ([] : List UInt8)) else some false) (fun k => ?_) (Ev.bind (ref_of X[i]) ?_)
    · rw [patchbaylaw4_LabelPacks.l0, if_pos (by omega), if_pos (by omega), if_pos (by omega), rdOf_nat X i hlt]
    · by_cases c : (labs X[i]).2 = 0
      · rw [if_pos c] at h0
        have e3 : wrap64 ((i : Int) + 1) = ((i + 1 : Nat) : Int) := by rw [w64b (by omega) (by omega)]; omega
        refine Ev.congr (fun k => ?_) (ih (i + 1) (by omega) h0)
        rw [if_pos (show (List.map mk (labs X[i]).1, (labs X[i]).2).2 = 0 from c), e3]
      · rw [if_neg c] at h0
        refine Ev.congr (fun k => ?_) (Ev.now true)
        rw [if_neg (show ¬ (List.map mk (labs X[i]).1, (labs X[i]).2).2 = 0 from c), if_pos (show e = (List.map mk (labs X[i]).1, (labs X[i]).2).2 from h0.symm)]
        decide +kernel
theorem pack_ev (X : List ByteArray) (hX : X.length ≤ 30) : Ev (fun k => label_Pack.f k X) (if firstCode X = 0 then (strOfNums (packP X [] []).1, 0) else ((⟨#[]⟩ : ByteArray), firstCode X)) := by
  refine ⟨200, fun k hk => ?_⟩
  obtain ⟨h1, h2⟩ := pack_at k hk X 0 [] [] (by omega) ⟨by simp, by simp, fun p hp => by cases hp⟩
  unfold label_Pack.f
  simp only []
  rw [if_pos (show X.length ≤ 256 by omega), h1, Option.bind_some, packP_code]
  by_cases c : firstCode X = 0
  · rw [if_pos c, if_pos c, if_pos (show (packP X [] []).1.length ≤ 4096 by have := h2 c; omega)]
  · rw [if_neg c, if_neg c]
theorem LabelPacksE (l0 : List ByteArray) : Ev (fun k => patchbaylaw4_LabelPacks.f k l0) true := by
  unfold patchbaylaw4_LabelPacks.f
  have hd : Ev (fun k => label_Pack.f k [(⟨#[46]⟩ : ByteArray)]) ((⟨#[0]⟩ : ByteArray), 0) := by
    have h := pack_ev [(⟨#[46]⟩ : ByteArray)] (by decide)
    have e : (labs (⟨#[46]⟩ : ByteArray)) = ([], 0) := by decide +kernel
    have e2 : firstCode [(⟨#[46]⟩ : ByteArray)] = 0 := by rw [firstCode, e]; rfl
    have e3 : (packP [(⟨#[46]⟩ : ByteArray)] [] []).1 = [0] := by rw [packP, e]; rfl
    rw [if_pos e2, e3] at h
    exact h
  refine Ev.bind hd ?_
  have hm0 : (0 : Int) ≤ mn (l0.length : Int) 30 := by unfold mn; split <;> omega
  have hm1 : mn (l0.length : Int) 30 ≤ (l0.length : Int) := by unfold mn; split <;> omega
  have hm2 : mn (l0.length : Int) 30 ≤ 30 := by unfold mn; split <;> omega
  obtain ⟨X, hX⟩ : ∃ X, X = l0.take (mn (l0.length : Int) 30).toNat := ⟨_, rfl⟩
  have hl : X.length ≤ 30 := by rw [hX, List.length_take]; omega
  have h0 : ((⟨#[0]⟩ : ByteArray), (0 : Int)).1.toList = ([0] : List UInt8) := by decide +kernel
  refine Ev.congr (fun k => by rw [if_pos h0, if_pos hm0, if_pos hm1, ← hX]) (Ev.bind (pack_ev X hl) ?_)
  by_cases c : firstCode X = 0
  · rw [if_pos c]
    exact law_ok X hl _ (names_at X hl X.length 0 [] [] (by omega) ⟨by simp, by simp, fun p hp => by cases hp⟩ c) X.length 0 (by omega) c
  · rw [if_neg c]
    exact law_bad X hl _ c X.length 0 (by omega) rfl
theorem LabelPacks (l0 : List ByteArray) (_ : l0.length * 16 ≤ 140737488351232 ∧ ∀ x ∈ l0, x.size ≤ 140737488351232) : ∃ k, patchbaylaw4_LabelPacks.f k l0 = some true := by
  obtain ⟨K, hK⟩ := LabelPacksE l0
  exact ⟨K, hK K (Nat.le_refl _)⟩
end Go.Proofs.YtbcocpaeehgmnaaDoor.Pure
