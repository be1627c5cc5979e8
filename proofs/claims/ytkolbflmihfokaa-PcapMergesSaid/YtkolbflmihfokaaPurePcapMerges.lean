/- The pure law of PcapMerges: both validations of a capture give the same error; a merged capture is the reference's. -/
import Derived.Test.YtkolbflmihfokaaMergeT26
import Derived.Test.YtkolbflmihfokaaMergex8
import Derived.Test.YtkolbflmihfokaaMergeV
namespace Go.Proofs.Ytkolbflmihfokaa.Pure
open Go.RowKit Go.Proofs.Ytkolbflmihfokaa.Merge Go.Proofs.YtkolbflmihfokaaW.PrintWords Go.Proofs.YtkolbflmihfokaaW.PrintLast Go.Proofs.YtkolbflmihfokaaW.Sort

theorem faults_same (l : List S26) (hl : l.length ≤ 400) (d : Nat) : ∀ (i : Nat) (k : Nat) (last : Int), i + d = l.length → (i = 0 → last = 0) → (0 < i → last = (rd_T26 l ((i : Int) - 1)).f0) → 2 * d + 1 ≤ k →
    ∃ r, pcap_Check.l0 k last l (l.length : Int) i = some r ∧ patchbayref4_CaptureFault.l0 k l l (l.length : Int) i = some r := by
  induction d with
  | zero =>
    intro i k last hi _ _ hk
    obtain ⟨k, rfl⟩ : ∃ m, k = m + 1 := ⟨k - 1, by omega⟩
    refine ⟨0, ?_, ?_⟩
    · simp only [pcap_Check.l0]; rw [if_neg (by omega)]
    · simp only [patchbayref4_CaptureFault.l0]; rw [if_neg (by omega)]
  | succ d ih =>
    intro i k last hi h0 h1 hk
    obtain ⟨k, rfl⟩ : ∃ m, k = m + 1 + 1 := ⟨k - 2, by omega⟩
    have hlt : (i : Int) < (l.length : Int) := by omega
    have hge : 0 ≤ (i : Int) := by omega
    simp only [pcap_Check.l0, patchbayref4_CaptureFault.l0, if_pos hlt, if_pos hge]
    generalize he : rd_T26 l (i : Int) = x
    by_cases c0 : x.f0 < 0
    · simp only [if_pos c0]
      exact ⟨10, by simp only [pcap_Check.j1, if_true], by simp only [patchbayref4_CaptureFault.j1, if_true]⟩
    simp only [if_neg c0]
    by_cases c1 : x.f0 > 1000000000
    · simp only [if_pos c1]
      exact ⟨10, by simp only [pcap_Check.j1, if_true], by simp only [patchbayref4_CaptureFault.j1, if_true]⟩
    simp only [if_neg c1]
    by_cases c2 : x.f1 < 0
    · simp only [if_pos c2]
      exact ⟨10, by simp only [pcap_Check.j1, if_true], by simp only [patchbayref4_CaptureFault.j1, if_true]⟩
    simp only [if_neg c2]
    by_cases c3 : x.f1 > 15
    · simp only [if_pos (show x.f1 ≥ 16 by omega), if_pos c3]
      exact ⟨10, by simp only [pcap_Check.j1, if_true], by simp only [patchbayref4_CaptureFault.j1, if_true]⟩
    simp only [if_neg (show ¬ x.f1 ≥ 16 by omega), if_neg c3]
    by_cases c4 : x.f2 < 0
    · simp only [if_pos c4]
      exact ⟨10, by simp only [pcap_Check.j1, if_true], by simp only [patchbayref4_CaptureFault.j1, if_true]⟩
    simp only [if_neg c4]
    simp only [pcap_Check.j1, patchbayref4_CaptureFault.j1, decide_eq_true_eq]
    by_cases c5 : x.f2 > 7
    · simp only [if_pos (show x.f2 ≥ 8 by omega), if_pos c5]
      exact ⟨10, rfl, rfl⟩
    simp only [if_neg (show ¬ x.f2 ≥ 8 by omega), if_neg c5]
    by_cases c6 : (x.f4.size : Int) > 2000
    · simp only [if_pos c6]
      exact ⟨2, rfl, rfl⟩
    simp only [if_neg c6]
    have hw : wrap64 ((i : Int) + 1) = ((i + 1 : Nat) : Int) := by unfold wrap64; omega
    rw [hw]
    have hn : x.f0 = (rd_T26 l (((i + 1 : Nat) : Int) - 1)).f0 := by
      rw [show ((i + 1 : Nat) : Int) - 1 = (i : Int) by omega, he]
    by_cases c7 : (i : Int) > 0
    · have hw1 : wrap64 ((i : Int) - 1) = (i : Int) - 1 := by unfold wrap64; omega
      simp only [if_pos c7, hw1, if_pos (show 0 ≤ (i : Int) - 1 by omega), if_pos (show (i : Int) - 1 < (l.length : Int) by omega)]
      have hlast := h1 (by omega)
      rw [← hlast]
      by_cases c8 : x.f0 < last
      · simp only [if_pos c8]
        exact ⟨3, rfl, rfl⟩
      · simp only [if_neg c8]
        exact ih (i + 1) k x.f0 (by omega) (fun h => by omega) (fun _ => hn) (by omega)
    · have hlast := h0 (by omega)
      simp only [if_neg c7, if_neg (show ¬ x.f0 < last by omega)]
      exact ih (i + 1) k x.f0 (by omega) (fun h => by omega) (fun _ => hn) (by omega)

/-- Both validations of a capture. -/
theorem check_same (l : List S26) (k : Nat) (hk : 801 ≤ k) : ∃ r, pcap_Check.f k l = some r ∧ patchbayref4_CaptureFault.f k l = some r := by
  unfold pcap_Check.f patchbayref4_CaptureFault.f
  by_cases c : (l.length : Int) > 400
  · rw [if_pos c, if_pos c]
    exact ⟨2, rfl, rfl⟩
  · rw [if_neg c, if_neg c]
    exact faults_same l (by omega) l.length 0 k 0 (by omega) (fun _ => rfl) (fun h => by omega) (by omega)


theorem wsm {x : Int} (h0 : -4611686018427387904 ≤ x) (h1 : x ≤ 4611686018427387904) : wrap64 x = x := Go.Proofs.YtkolbflmihfokaaW.Sort.wrap_small h0 h1
theorem check_ev (l : List S26) : ∃ r, Ev (fun k => pcap_Check.f k l) r ∧ Ev (fun k => patchbayref4_CaptureFault.f k l) r := by
  obtain ⟨r, h1, h2⟩ := check_same l 801 (Nat.le_refl _)
  exact ⟨r, Ev.of (fun k => pcap_Check.mono l k) h1, Ev.of (fun k => patchbayref4_CaptureFault.mono l k) h2⟩

def lt (x y : S26) : Bool := decide (x.f0 < y.f0)
theorem ord : Ord_ lt := ⟨fun h => by simp only [lt, decide_eq_true_eq, decide_eq_false_iff_not] at h ⊢; omega, fun h h' => by simp only [lt, decide_eq_false_iff_not] at h h' ⊢; omega⟩
def inT (x : S26) : Prop := 0 ≤ x.f0 ∧ x.f0 ≤ 1000000000
theorem tells : Tells lt Merge.T26.cmp inT := by
  intro x y hx hy
  refine ⟨x.f0 - y.f0, Ev.congr (fun k => ?_) (Ev.now _), ?_⟩
  · simp only [Merge.T26.cmp, pcap_Merge_1.f]
    rw [wsm (by have := hx.1; have := hy.2; omega) (by have := hx.2; have := hy.1; omega)]
  · simp only [lt, decide_eq_true_eq]; omega

theorem drop_cons (l : List S26) (i : Nat) (h : i < l.length) : l.drop i = rd_T26 l (i : Int) :: l.drop (i + 1) := by
  rw [List.drop_eq_getElem_cons h]
  congr 1
  simp [rd_T26, List.getD_eq_getElem?_getD, List.getElem?_eq_getElem h]

/-- What the validation says of a capture. -/
theorem check_facts (l : List S26) (hl : l.length ≤ 400) (d : Nat) : ∀ (i k : Nat) (last : Int), i + d = l.length → pcap_Check.l0 k last l (l.length : Int) i = some 0 → Sorted lt (l.drop i) ∧ ∀ x, x ∈ l.drop i → inT x ∧ last ≤ x.f0 := by
  induction d with
  | zero =>
    intro i k last hi _
    rw [List.drop_eq_nil_iff.2 (by omega)]
    exact ⟨Sorted.nil, fun x hx => by cases hx⟩
  | succ d ih =>
    intro i k last hi hk
    match k with
    | 0 => simp [pcap_Check.l0] at hk
    | 1 =>
      simp only [pcap_Check.l0, if_pos (show (i : Int) < (l.length : Int) by omega), if_pos (show 0 ≤ (i : Int) by omega)] at hk
      repeat' split at hk
      all_goals simp [pcap_Check.j1] at hk
    | k + 2 =>
      have hlt : (i : Int) < (l.length : Int) := by omega
      have hge : 0 ≤ (i : Int) := by omega
      simp only [pcap_Check.l0, if_pos hlt, if_pos hge] at hk
      rw [drop_cons l i (by omega)]
      generalize he : rd_T26 l (i : Int) = x at hk ⊢
      have hw : wrap64 ((i : Int) + 1) = ((i + 1 : Nat) : Int) := by unfold wrap64; omega
      by_cases c0 : x.f0 < 0
      · simp [if_pos c0, pcap_Check.j1] at hk
      simp only [if_neg c0] at hk
      by_cases c1 : x.f0 > 1000000000
      · simp [if_pos c1, pcap_Check.j1] at hk
      simp only [if_neg c1] at hk
      by_cases c2 : x.f1 < 0
      · simp [if_pos c2, pcap_Check.j1] at hk
      simp only [if_neg c2] at hk
      by_cases c3 : x.f1 ≥ 16
      · simp [if_pos c3, pcap_Check.j1] at hk
      simp only [if_neg c3] at hk
      by_cases c4 : x.f2 < 0
      · simp [if_pos c4, pcap_Check.j1] at hk
      simp only [if_neg c4] at hk
      simp only [pcap_Check.j1, decide_eq_true_eq] at hk
      by_cases c5 : x.f2 ≥ 8
      · simp [if_pos c5] at hk
      simp only [if_neg c5] at hk
      by_cases c6 : (x.f4.size : Int) > 2000
      · simp [if_pos c6] at hk
      simp only [if_neg c6] at hk
      by_cases c7 : x.f0 < last
      · simp [if_pos c7] at hk
      simp only [if_neg c7, hw] at hk
      obtain ⟨h1, h2⟩ := ih (i + 1) k x.f0 (by omega) hk
      refine ⟨Sorted.cons h1 (fun y hy => ?_), fun y hy => ?_⟩
      · have := (h2 y hy).2
        simp only [lt, decide_eq_false_iff_not]
        omega
      · rcases List.mem_cons.1 hy with rfl | hy
        · exact ⟨⟨by omega, by omega⟩, by omega⟩
        · obtain ⟨a, b⟩ := h2 y hy
          exact ⟨a, by omega⟩
theorem check_good (l : List S26) (h : Ev (fun k => pcap_Check.f k l) 0) : l.length ≤ 400 ∧ Sorted lt l ∧ ∀ x, x ∈ l → inT x := by
  obtain ⟨k, hk⟩ := h.rounds
  unfold pcap_Check.f at hk
  by_cases c : (l.length : Int) > 400
  · simp [if_pos c] at hk
  · rw [if_neg c] at hk
    obtain ⟨a, b⟩ := check_facts l (by omega) l.length 0 k 0 (by omega) hk
    exact ⟨by omega, by simpa using a, fun x hx => (b x (by simpa using hx)).1⟩

theorem concat_ev (a b : List S26) (ha : a.length ≤ 400) (hb : b.length ≤ 400) : Ev (fun k => api_PcapSeen_58.f k [a, b]) (a ++ b) := by
  have w0 : wrap64 (0 + (a.length : Int)) = (a.length : Int) := by rw [wsm (by omega) (by omega)]; omega
  have w1 : wrap64 ((a.length : Int) + (b.length : Int)) = (a.length : Int) + (b.length : Int) := wsm (by omega) (by omega)
  refine Ev.of (fun k => api_PcapSeen_58.mono [a, b] k) (k := 10) ?_
  unfold api_PcapSeen_58.f
  have e0 : rd_L4 [a, b] 0 = a := rfl
  have z1 : wrap64 (0 + 1) = 1 := wsm (by omega) (by omega)
  have z2 : wrap64 (1 + 1) = 2 := wsm (by omega) (by omega)
  have e1' : rd_L4 [a, b] 1 = b := rfl
  have hlen : (([a, b] : List (List S26)).length : Int) = 2 := rfl
  have hg : api_PcapSeen_93.f ([] : List S26) ((a.length : Int) + (b.length : Int)) = some [] := by
    unfold api_PcapSeen_93.f
    rw [if_pos ⟨rfl, by omega, by omega⟩]
  rw [hlen]
  rw [api_PcapSeen_58.l0.eq_2, if_pos (by decide), if_pos (by decide), if_pos (by rw [hlen]; decide), e0, w0, if_neg (by omega), z1,
    api_PcapSeen_58.l0.eq_2, if_pos (by decide), if_pos (by decide), if_pos (by rw [hlen]; decide), e1', w1, if_neg (by omega), z2,
    api_PcapSeen_58.l0.eq_2, if_neg (by decide), hg, Option.bind_some, hlen,
    api_PcapSeen_58.l1.eq_2, if_pos (by decide), if_pos (by decide), if_pos (by rw [hlen]; decide), e0, if_pos (by simp; omega), z1,
    api_PcapSeen_58.l1.eq_2, if_pos (by decide), if_pos (by decide), if_pos (by rw [hlen]; decide), e1', if_pos (by simp; omega), z2,
    api_PcapSeen_58.l1.eq_2, if_neg (by decide), List.nil_append]

/-- What Merge answers. -/
theorem merge_ev (a b : List S26) (ra rb : Int) (ha : Ev (fun k => pcap_Check.f k a) ra) (hb : Ev (fun k => pcap_Check.f k b) rb) :
    (ra ≠ 0 → Ev (fun k => pcap_Merge.f k a b) ([], ra)) ∧ (ra = 0 → rb ≠ 0 → Ev (fun k => pcap_Merge.f k a b) ([], rb)) ∧ (ra = 0 → rb = 0 → 400 < a.length + b.length → Ev (fun k => pcap_Merge.f k a b) ([], 5)) ∧
    (ra = 0 → rb = 0 → ¬ 400 < a.length + b.length → ∃ R, Sorted lt R ∧ Stab lt (a ++ b) R ∧ Ev (fun k => pcap_Merge.f k a b) (R, 0)) := by
  have hlen : (([a, b] : List (List S26)).length : Int) = 2 := rfl
  have z1 : wrap64 (0 + 1) = 1 := wsm (by omega) (by omega)
  have z2 : wrap64 (1 + 1) = 2 := wsm (by omega) (by omega)
  have e0 : rd_L4 [a, b] 0 = a := rfl
  have e1 : rd_L4 [a, b] 1 = b := rfl
  have s0 : ∀ r, Ev (fun k => if ra = 0 then pcap_Merge.l0 k a b [a, b] 2 1 else some (([] : List S26), ra)) r → Ev (fun k => pcap_Merge.f k a b) r := by
    intro r hr
    refine Ev.congr (f := fun k => pcap_Merge.l0 k a b [a, b] 2 0) (fun k => rfl) ?_
    refine Ev.step (f := fun k => (pcap_Check.f k a).bind fun t => if t = 0 then pcap_Merge.l0 k a b [a, b] 2 1 else some (([] : List S26), t)) (fun k => ?_) (Ev.bind ha hr)
    rw [pcap_Merge.l0.eq_2, if_pos (by decide), if_pos (by decide), if_pos (by rw [hlen]; decide), e0, z1]
  have s1 : ∀ r, Ev (fun k => if rb = 0 then pcap_Merge.l0 k a b [a, b] 2 2 else some (([] : List S26), rb)) r → Ev (fun k => pcap_Merge.l0 k a b [a, b] 2 1) r := by
    intro r hr
    refine Ev.step (f := fun k => (pcap_Check.f k b).bind fun t => if t = 0 then pcap_Merge.l0 k a b [a, b] 2 2 else some (([] : List S26), t)) (fun k => ?_) (Ev.bind hb hr)
    rw [pcap_Merge.l0.eq_2, if_pos (by decide), if_pos (by decide), if_pos (by rw [hlen]; decide), e1, z2]
  refine ⟨fun h => s0 _ ?_, fun h h' => s0 _ ?_, fun h h' hl => ?_, fun h h' hl => ?_⟩
  · exact Ev.congr (fun k => if_neg h) (Ev.now _)
  · exact Ev.congr (fun k => if_pos h) (s1 _ (Ev.congr (fun k => if_neg h') (Ev.now _)))
  · subst h h'
    have la := (check_good a ha).1
    have lb := (check_good b hb).1
    refine s0 _ (Ev.congr (fun k => if_pos rfl) (s1 _ (Ev.congr (fun k => if_pos rfl) (Ev.step (fun k => ?_) (Ev.now _)))))
    rw [pcap_Merge.l0.eq_2, if_neg (by decide), wsm (by omega) (by omega), if_pos (by omega)]
  · subst h h'
    obtain ⟨la, sa, pa⟩ := check_good a ha
    obtain ⟨lb, sb, pb⟩ := check_good b hb
    obtain ⟨R, h1, h2, h3⟩ := Merge.T26.sorts ord tells (a ++ b) (by simp; omega) (fun y hy => by
      rcases List.mem_append.1 hy with hy | hy
      · exact pa y hy
      · exact pb y hy)
    refine ⟨R, h1, h2, s0 _ (Ev.congr (fun k => if_pos rfl) (s1 _ (Ev.congr (fun k => if_pos rfl) ?_)))⟩
    refine Ev.step (f := fun k => (api_PcapSeen_58.f k [a, b]).bind fun t => (api_PcapSeen_59.f k t).bind fun t' => some (t', 0)) (fun k => ?_) (Ev.bind (concat_ev a b la lb) (Ev.bind (f := fun _ t' => some (t', 0)) h3 (Ev.now _)))
    rw [pcap_Merge.l0.eq_2, if_neg (by decide), wsm (by omega) (by omega), if_neg (by omega)]

theorem same_l0 (l : List S26) (hl : l.length ≤ 1000000) (d : Nat) : ∀ (i k : Nat), i + d = l.length → d + 1 ≤ k → patchbayref4_SameCapture.l0 k l l (l.length : Int) i = some true := by
  induction d with
  | zero =>
    intro i k hi hk
    obtain ⟨k, rfl⟩ : ∃ m, k = m + 1 := ⟨k - 1, by omega⟩
    simp only [patchbayref4_SameCapture.l0]
    rw [if_neg (by omega)]
  | succ d ih =>
    intro i k hi hk
    obtain ⟨k, rfl⟩ : ∃ m, k = m + 1 := ⟨k - 1, by omega⟩
    have h := ih (i + 1) k (by omega) (by omega)
    have hw : wrap64 ((i : Int) + 1) = ((i + 1 : Nat) : Int) := by unfold wrap64; omega
    simp only [patchbayref4_SameCapture.l0]
    rw [if_pos (by omega), if_pos (by omega), if_pos (by omega), if_pos (by omega), hw, if_neg (by simp)]
    exact h
theorem same_ev (l : List S26) (hl : l.length ≤ 1000000) : Ev (fun k => patchbayref4_SameCapture.f k l l) true :=
  Ev.of (fun k => patchbayref4_SameCapture.mono l l k) (k := l.length + 1) (by unfold patchbayref4_SameCapture.f; rw [if_pos rfl]; exact same_l0 l hl l.length 0 _ (by omega) (Nat.le_refl _))

/-- The reference's merge, from some place on. -/
theorem merged (a b R : List S26) (hla : a.length ≤ 400) (hlb : b.length ≤ 400) (sa : Sorted lt a) (sb : Sorted lt b) (hR : Sorted lt R) (hs : Stab lt (a ++ b) R) : ∀ (n i j : Nat) (out : List S26), i + j + n = a.length + b.length → i ≤ a.length → j ≤ b.length → out.length = i + j → Sorted lt out →
    (∀ x, x ∈ out → ∀ y, y ∈ a.drop i ++ b.drop j → lt y x = false) → Stab lt (a ++ b) (out ++ (a.drop i ++ b.drop j)) → Ev (fun k => patchbaylaw4_PcapMerges.l0 k a b R 0 out (i : Int) (j : Int)) true := by
  intro n
  induction n with
  | zero =>
    intro i j out hn hi hj hol ho hx hst
    rw [List.drop_eq_nil_iff.2 (by omega), List.drop_eq_nil_iff.2 (by omega)] at hst
    have e : R = out := sorted_unique ord hR ho (Stab.trans (Stab.symm hs) (by simpa using hst))
    subst e
    have hRl : R.length ≤ 1000000 := by rw [hs.len]; simp; omega
    refine Ev.step (f := fun k => patchbaylaw4_PcapMerges.j5 k a b R 0 R (i : Int) (j : Int) false) (fun k => ?_) (Ev.step (f := fun k => (patchbayref4_SameCapture.f k R R).bind fun t => some t) (fun k => ?_) (Ev.bind (f := fun _ t => some t) (same_ev R hRl) (Ev.now _)))
    · rw [patchbaylaw4_PcapMerges.l0.eq_2, if_neg (by omega), decide_eq_false (by omega)]
    · rw [patchbaylaw4_PcapMerges.j5.eq_2, if_neg (by simp), if_pos rfl]
  | succ n ih =>
    intro i j out hn hi hj hol ho hx hst
    have hwi : wrap64 ((i : Int) + 1) = ((i + 1 : Nat) : Int) := by rw [wsm (by omega) (by omega)]; omega
    have hwj : wrap64 ((j : Int) + 1) = ((j + 1 : Nat) : Int) := by rw [wsm (by omega) (by omega)]; omega
    have first : ∀ r, Ev (fun k => patchbaylaw4_PcapMerges.j5 k a b R 0 out (i : Int) (j : Int) true) r → Ev (fun k => patchbaylaw4_PcapMerges.l0 k a b R 0 out (i : Int) (j : Int)) r := by
      intro r hr
      refine Ev.step (fun k => ?_) hr
      rw [patchbaylaw4_PcapMerges.l0.eq_2]
      by_cases c : (i : Int) < (a.length : Int)
      · rw [if_pos c]
      · rw [if_neg c, decide_eq_true (by omega)]
    -- an element of the first
    have takeA : i < a.length → (∀ y, y ∈ b.drop j → lt y (rd_T26 a (i : Int)) = false) → Ev (fun k => patchbaylaw4_PcapMerges.l0 k a b R 0 (out ++ [rd_T26 a (i : Int)]) ((i + 1 : Nat) : Int) (j : Int)) true := by
      intro hia hb'
      have hd := drop_cons a i hia
      have sd : Sorted lt (a.drop i) := List.Pairwise.sublist (List.drop_sublist _ _) sa
      rw [hd] at sd
      refine ih (i + 1) j (out ++ [rd_T26 a (i : Int)]) (by omega) (by omega) hj (by simp; omega) (Sorted.app ho (Sorted.one _) (fun x hx' y hy => ?_)) (fun x hx' y hy => ?_) ?_
      · rw [List.mem_singleton.1 hy]
        exact hx x hx' _ (by rw [hd]; simp)
      · rcases List.mem_append.1 hx' with hx' | hx'
        · refine hx x hx' y ?_
          rw [hd]
          rcases List.mem_append.1 hy with hy | hy
          · simp [hy]
          · simp [hy]
        · rw [List.mem_singleton.1 hx']
          rcases List.mem_append.1 hy with hy | hy
          · exact sd.head hy
          · exact hb' y hy
      · rw [hd] at hst
        simpa using hst
    -- an element of the second
    have takeB : j < b.length → (∀ x, x ∈ a.drop i → lt (rd_T26 b (j : Int)) x = true) → Ev (fun k => patchbaylaw4_PcapMerges.l0 k a b R 0 (out ++ [rd_T26 b (j : Int)]) (i : Int) ((j + 1 : Nat) : Int)) true := by
      intro hjb ha'
      have hd := drop_cons b j hjb
      have sd : Sorted lt (b.drop j) := List.Pairwise.sublist (List.drop_sublist _ _) sb
      rw [hd] at sd
      refine ih i (j + 1) (out ++ [rd_T26 b (j : Int)]) (by omega) hi (by omega) (by simp; omega) (Sorted.app ho (Sorted.one _) (fun x hx' y hy => ?_)) (fun x hx' y hy => ?_) ?_
      · rw [List.mem_singleton.1 hy]
        exact hx x hx' _ (by rw [hd]; simp)
      · rcases List.mem_append.1 hx' with hx' | hx'
        · refine hx x hx' y ?_
          rw [hd]
          rcases List.mem_append.1 hy with hy | hy
          · simp [hy]
          · simp [hy]
        · rw [List.mem_singleton.1 hx']
          rcases List.mem_append.1 hy with hy | hy
          · exact ord.asymm (ha' y hy)
          · exact sd.head hy
      · rw [hd] at hst
        have r := Stab.app (Stab.refl (lt := lt) out) (Stab.app (Stab.rot (lt := lt) ord (U := a.drop i) (V := [rd_T26 b (j : Int)]) (fun x hx' y hy => by rw [List.mem_singleton.1 hy]; exact ha' x hx')) (Stab.refl (lt := lt) (b.drop (j + 1))))
        exact Stab.trans hst (by simpa using r)
    refine first _ ?_
    by_cases cj : (j : Int) = (b.length : Int)
    · refine Ev.step (fun k => ?_) (takeA (by omega) (fun y hy => by rw [List.drop_eq_nil_iff.2 (by omega)] at hy; cases hy))
      rw [patchbaylaw4_PcapMerges.j5.eq_2, if_pos rfl, if_pos cj, if_pos (by omega), if_pos (by omega), if_pos (by omega), hwi]
    · by_cases ci : (i : Int) < (a.length : Int)
      · by_cases ct : (rd_T26 a (i : Int)).f0 ≤ (rd_T26 b (j : Int)).f0
        · refine Ev.step (fun k => ?_) (takeA (by omega) (fun y hy => ?_))
          · rw [patchbaylaw4_PcapMerges.j5.eq_2, if_pos rfl, if_neg cj, if_pos ci, if_pos (by omega), if_pos (by omega), if_pos (by omega), if_pos ct, if_pos (by omega), hwi]
          · have sd : Sorted lt (b.drop j) := List.Pairwise.sublist (List.drop_sublist _ _) sb
            have hd := drop_cons b j (by omega)
            rw [hd] at sd hy
            have hba : lt (rd_T26 b (j : Int)) (rd_T26 a (i : Int)) = false := by simp only [lt, decide_eq_false_iff_not]; omega
            rcases List.mem_cons.1 hy with rfl | hy
            · exact hba
            · exact ord.ntr (sd.head hy) hba
        · refine Ev.step (fun k => ?_) (takeB (by omega) (fun x hx' => ?_))
          · rw [patchbaylaw4_PcapMerges.j5.eq_2, if_pos rfl, if_neg cj, if_pos ci, if_pos (by omega), if_pos (by omega), if_pos (by omega), if_neg ct, if_pos (by omega), hwj]
          · have sd : Sorted lt (a.drop i) := List.Pairwise.sublist (List.drop_sublist _ _) sa
            have hd := drop_cons a i (by omega)
            rw [hd] at sd hx'
            have hxa : lt x (rd_T26 a (i : Int)) = false := by
              rcases List.mem_cons.1 hx' with rfl | hx'
              · exact irr ord _
              · exact sd.head hx'
            simp only [lt, decide_eq_false_iff_not, decide_eq_true_eq] at hxa ⊢
            omega
      · refine Ev.step (fun k => ?_) (takeB (by omega) (fun x hx' => by rw [List.drop_eq_nil_iff.2 (by omega)] at hx'; cases hx'))
        rw [patchbaylaw4_PcapMerges.j5.eq_2, if_pos rfl, if_neg cj, if_neg ci, if_pos (by omega), if_pos (by omega), if_pos (by omega), hwj]

theorem one_good : Ev (fun k => pcap_Check.f k [(⟨1, 0, 0, false, (⟨#[97]⟩ : ByteArray)⟩ : S26)]) 0 := Ev.of (fun k => pcap_Check.mono _ k) (k := 5) (by simp [pcap_Check.f, pcap_Check.l0, pcap_Check.j1, rd_T26, wrap64]; decide)

theorem j3_bad (a b l : List S26) (e w : Int) (hw : w ≠ 0) (he : e = w) (hl : l = []) : Ev (fun k => patchbaylaw4_PcapMerges.j3 k a b l e w) true := by
  subst he hl
  refine Ev.step (f := fun _ => some true) (fun k => ?_) (Ev.now _)
  rw [patchbaylaw4_PcapMerges.j3.eq_2, if_neg hw, if_pos rfl]
  rfl

theorem PcapMerges (a b : List S26) (_ : a.length * 48 ≤ 140737488351232 ∧ ∀ x ∈ a, v26 x) (_ : b.length * 48 ≤ 140737488351232 ∧ ∀ x ∈ b, v26 x) : ∃ k, patchbaylaw4_PcapMerges.f k a b = some true := by
  refine Ev.rounds (g := fun k => patchbaylaw4_PcapMerges.f k a b) ?_
  obtain ⟨R1, r1, r2, r3⟩ := (merge_ev _ _ 0 0 one_good one_good).2.2.2 rfl rfl (by simp)
  refine Ev.congr (f := fun k => (pcap_Merge.f k [(⟨1, 0, 0, false, (⟨#[97]⟩ : ByteArray)⟩ : S26)] [(⟨1, 0, 0, false, (⟨#[97]⟩ : ByteArray)⟩ : S26)]).bind fun bt => (if bt.2 = 0 then (patchbaylaw4_PcapMerges.j0 k a b ((bt.1.length : Int) != 2)) else (patchbaylaw4_PcapMerges.j0 k a b true))) (fun k => rfl) (Ev.bind r3 ?_)
  have hl1 : R1.length = 2 := by rw [r2.len]; rfl
  refine Ev.congr (f := fun k => patchbaylaw4_PcapMerges.j0 k a b false) (fun k => by rw [if_pos rfl, hl1]; rfl) ?_
  obtain ⟨ra, ha, fa⟩ := check_ev a
  obtain ⟨rb, hb, fb⟩ := check_ev b
  obtain ⟨m1, m2, m3, m4⟩ := merge_ev a b ra rb ha hb
  have start : ∀ (l : List S26) (e : Int), Ev (fun k => pcap_Merge.f k a b) (l, e) → (Ev (fun k => if ra = 0 then (patchbayref4_CaptureFault.f k b).bind fun t => patchbaylaw4_PcapMerges.j1 k a b l e t else patchbaylaw4_PcapMerges.j1 k a b l e ra) true) → Ev (fun k => patchbaylaw4_PcapMerges.j0 k a b false) true := by
    intro l e hm hr
    refine Ev.step (f := fun k => (pcap_Merge.f k a b).bind fun bt => (patchbayref4_CaptureFault.f k a).bind fun t => if t = 0 then (patchbayref4_CaptureFault.f k b).bind fun t' => patchbaylaw4_PcapMerges.j1 k a b bt.1 bt.2 t' else patchbaylaw4_PcapMerges.j1 k a b bt.1 bt.2 t) (fun k => ?_) (Ev.bind hm (Ev.bind (f := fun k t => if t = 0 then (patchbayref4_CaptureFault.f k b).bind fun t' => patchbaylaw4_PcapMerges.j1 k a b l e t' else patchbaylaw4_PcapMerges.j1 k a b l e t) fa hr))
    rw [patchbaylaw4_PcapMerges.j0.eq_2, if_neg (by simp)]
  have bad : ∀ (l : List S26) (e w : Int), w ≠ 0 → e = w → l = [] → Ev (fun k => patchbaylaw4_PcapMerges.j1 k a b l e w) true := by
    intro l e w hw he hl
    refine Ev.step (f := fun k => patchbaylaw4_PcapMerges.j2 k a b l e w false) (fun k => ?_) (Ev.step (fun k => ?_) (j3_bad a b l e w hw he hl))
    · rw [patchbaylaw4_PcapMerges.j1.eq_2, if_neg hw]
    · rw [patchbaylaw4_PcapMerges.j2.eq_2, if_neg (by simp)]
  by_cases ca : ra = 0
  · by_cases cb : rb = 0
    · subst ca cb
      obtain ⟨la, sa, pa⟩ := check_good a ha
      obtain ⟨lb, sb, pb⟩ := check_good b hb
      have wl : wrap64 ((a.length : Int) + (b.length : Int)) = (a.length : Int) + (b.length : Int) := wsm (by omega) (by omega)
      by_cases cl : 400 < a.length + b.length
      · refine start _ _ (m3 rfl rfl cl) (Ev.congr (fun k => if_pos rfl) (Ev.bind fb ?_))
        refine Ev.step (f := fun k => patchbaylaw4_PcapMerges.j2 k a b [] 5 0 true) (fun k => ?_) (Ev.step (fun k => ?_) (j3_bad a b [] 5 5 (by decide) rfl rfl))
        · rw [patchbaylaw4_PcapMerges.j1.eq_2, if_pos rfl, wl, decide_eq_true (by omega)]
        · rw [patchbaylaw4_PcapMerges.j2.eq_2, if_pos rfl]
      · obtain ⟨R, q1, q2, q3⟩ := m4 rfl rfl cl
        refine start _ _ q3 (Ev.congr (fun k => if_pos rfl) (Ev.bind fb ?_))
        refine Ev.step (f := fun k => patchbaylaw4_PcapMerges.j2 k a b R 0 0 false) (fun k => ?_) (Ev.step (f := fun k => patchbaylaw4_PcapMerges.j3 k a b R 0 0) (fun k => ?_) (Ev.step (f := fun k => patchbaylaw4_PcapMerges.l0 k a b R 0 [] 0 0) (fun k => ?_) ?_))
        · rw [patchbaylaw4_PcapMerges.j1.eq_2, if_pos rfl, wl, decide_eq_false (by omega)]
        · rw [patchbaylaw4_PcapMerges.j2.eq_2, if_neg (by simp)]
        · rw [patchbaylaw4_PcapMerges.j3.eq_2, if_pos rfl]
        · exact merged a b R la lb sa sb q1 q2 (a.length + b.length) 0 0 [] (by omega) (by omega) (by omega) rfl Sorted.nil (fun x hx => by cases hx) (by simpa using Stab.refl _)
    · exact start _ _ (m2 ca cb) (Ev.congr (fun k => if_pos ca) (Ev.bind fb (bad _ _ _ cb rfl rfl)))
  · exact start _ _ (m1 ca) (Ev.congr (fun k => if_neg ca) (bad _ _ _ ca rfl rfl))

end Go.Proofs.Ytkolbflmihfokaa.Pure
