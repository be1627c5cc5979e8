/- Go's stable sort: two sorted blocks are merged in place. -/
import Derived.Test.YtkolbflmihfokaaSortD
namespace Go.Proofs.YtkolbflmihfokaaW.Sort
open Go.RowKit Go.Proofs.YtkolbflmihfokaaW.PrintWords

section
variable {α : Type} {lt : α → α → Bool} {z : α} {cmp : Nat → α → α → Option Int} {P : α → Prop}

theorem syI_run {L L1 L2 : List α} {a b mid e end_ : Int} {f : Bool} (h1 : f = true → Ev (fun k => sym z cmp k L a e mid) L1) (h1' : f = false → L1 = L) (h2 : mid < end_ ∧ end_ < b → Ev (fun k => sym z cmp k L1 mid end_ b) L2) (h2' : ¬ (mid < end_ ∧ end_ < b) → L2 = L1) :
    Ev (fun k => syI z cmp k L a b mid e end_ f) L2 := by
  have tail : Ev (fun k => if mid < end_ then (if end_ < b then (sym z cmp k L1 mid end_ b).bind fun t' => some t' else some L1) else some L1) L2 := by
    by_cases c1 : mid < end_
    · by_cases c2 : end_ < b
      · exact Ev.congr (fun k => by rw [if_pos c1, if_pos c2]) (Ev.bind (f := fun _ t => some t) (h2 ⟨c1, c2⟩) (Ev.now _))
      · rw [h2' (fun h => c2 h.2)]
        exact Ev.congr (fun k => by rw [if_pos c1, if_neg c2]) (Ev.now _)
    · rw [h2' (fun h => c1 h.1)]
      exact Ev.congr (fun k => by rw [if_neg c1]) (Ev.now _)
  cases f with
  | true =>
    refine Ev.step (f := fun k => (sym z cmp k L a e mid).bind fun t => (if mid < end_ then (if end_ < b then ((sym z cmp k t mid end_ b).bind fun t' => some t') else some t) else some t)) (fun k => ?_) (Ev.bind (h1 rfl) tail)
    simp only [syI]
    rw [if_pos trivial]
  | false =>
    rw [h1' rfl] at tail
    refine Ev.step (fun k => ?_) tail
    simp only [syI]
    rw [if_neg (by simp)]
theorem syH_run {L L2 : List α} {a b mid e end_ : Int} (h : Ev (fun k => syI z cmp k L a b mid e end_ (decide (a < e ∧ e < mid))) L2) : Ev (fun k => syH z cmp k L a b mid e end_) L2 := by
  refine Ev.step (fun k => ?_) h
  simp only [syH]
  by_cases c : a < e
  · rw [if_pos c]; simp [c]
  · rw [if_neg c]; simp [c]
theorem syG_run {L L1 L2 : List α} {a m b mid e end_ : Int} {f : Bool} (h1 : f = true → Ev (fun k => rot z k L m (wrap64 (m - e)) (wrap64 (end_ - m))) L1) (h1' : f = false → L1 = L) (h : Ev (fun k => syH z cmp k L1 a b mid e end_) L2) :
    Ev (fun k => syG z cmp k L a m b mid e end_ f) L2 := by
  cases f with
  | true =>
    refine Ev.step (f := fun k => (rot z k L m (wrap64 (m - e)) (wrap64 (end_ - m))).bind fun t => syH z cmp k t a b mid e end_) (fun k => ?_) (Ev.bind (h1 rfl) h)
    simp only [syG]
    rw [if_pos trivial]
  | false =>
    rw [h1' rfl] at h
    refine Ev.step (fun k => ?_) h
    simp only [syG]
    rw [if_neg (by simp)]

variable (ho : Ord_ lt) (hc : Tells lt cmp P)
include hc

/-- Where the second part of the first block begins. -/
theorem syF_run {L : List α} {a m b mid n lo r0 : Int} (hP : ∀ y, y ∈ L → P y) (hL : L.length ≤ 1000000000000) (hr : ∀ c, lo ≤ c → c < r0 → 0 ≤ n - 1 - c ∧ n - 1 - c < (L.length : Int) ∧ 0 ≤ c ∧ c < (L.length : Int)) (hn : 0 ≤ n ∧ n ≤ 2000000000000) (hlo : 0 ≤ lo) (hr0 : r0 ≤ 1000000000000) :
    ∀ (d : Nat) (s r : Int), r - s ≤ (d : Int) → lo ≤ s → s ≤ r → r ≤ r0 → (s = lo ∨ lt (rd z L (n - s)) (rd z L (s - 1)) = false) → (r = r0 ∨ lt (rd z L (n - 1 - r)) (rd z L r) = true) →
    ∃ e, lo ≤ e ∧ e ≤ r0 ∧ (e = lo ∨ lt (rd z L (n - e)) (rd z L (e - 1)) = false) ∧ (e = r0 ∨ lt (rd z L (n - 1 - e)) (rd z L e) = true) ∧
      ∀ res, Ev (fun k => syG z cmp k L a m b mid e (n - e) (decide (e < m ∧ m < n - e))) res → Ev (fun k => syF z cmp k L a m b mid n s r (n - 1)) res := by
  have fin : ∀ (s r : Int), ¬ s < r → lo ≤ s → s ≤ r0 → ∀ res, Ev (fun k => syG z cmp k L a m b mid s (n - s) (decide (s < m ∧ m < n - s))) res → Ev (fun k => syF z cmp k L a m b mid n s r (n - 1)) res := by
    intro s r hsr h1 h2 res hres
    refine Ev.step (fun k => ?_) hres
    simp only [syF]
    have w : wrap64 (n - s) = n - s := wrap_small (by omega) (by omega)
    rw [if_neg hsr, w]
    by_cases c : s < m
    · rw [if_pos c]; simp [c]
    · rw [if_neg c]; simp [c]
  intro d
  induction d with
  | zero =>
    intro s r h1 h2 h3 h4 h5 h6
    obtain rfl : s = r := by omega
    exact ⟨s, h2, h4, h5, h6, fin s s (by omega) h2 h4⟩
  | succ d ih =>
    intro s r h1 h2 h3 h4 h5 h6
    by_cases hsr : s < r
    · have hh : half s r = (s + r) / 2 := half_eq (by omega) (by omega) (by omega) (by omega)
      obtain ⟨c, hcv⟩ : ∃ c, c = (s + r) / 2 := ⟨_, rfl⟩
      rw [← hcv] at hh
      have hc1 : s ≤ c := by omega
      have hc2 : c < r := by omega
      obtain ⟨q1, q2, q3, q4⟩ := hr c (by omega) (by omega)
      obtain ⟨t, ht, htl⟩ := hc (rd z L (n - 1 - c)) (rd z L c) (hP _ (rd_mem q1 q2)) (hP _ (rd_mem q3 q4))
      have step : ∀ res, (t < 0 → Ev (fun k => syF z cmp k L a m b mid n s c (n - 1)) res) → (¬ t < 0 → Ev (fun k => syF z cmp k L a m b mid n (c + 1) r (n - 1)) res) → Ev (fun k => syF z cmp k L a m b mid n s r (n - 1)) res := by
        intro res k1 k2
        refine Ev.step (f := fun k => (cmp k (rd z L (n - 1 - c)) (rd z L c)).bind fun t => if t < 0 then syF z cmp k L a m b mid n s c (n - 1) else syF z cmp k L a m b mid n (c + 1) r (n - 1)) (fun k => ?_) (Ev.bind ht ?_)
        · simp only [syF]
          rw [hh, wrap_small (x := n - 1 - c) (by omega) (by omega), wrap_small (x := c + 1) (by omega) (by omega), if_pos hsr, if_pos q1, if_pos q2, if_pos q3, if_pos q4]
        · by_cases hti : t < 0
          · exact Ev.congr (fun k => by rw [if_pos hti]) (k1 hti)
          · exact Ev.congr (fun k => by rw [if_neg hti]) (k2 hti)
      by_cases hti : t < 0
      · obtain ⟨e, e1, e2, e3, e4, e5⟩ := ih s c (by omega) h2 (by omega) (by omega) h5 (.inr (htl.1 hti))
        exact ⟨e, e1, e2, e3, e4, fun res hres => step res (fun _ => e5 res hres) (fun h => absurd hti h)⟩
      · have hf : lt (rd z L (n - 1 - c)) (rd z L c) = false := by simpa using fun h => hti (htl.2 h)
        obtain ⟨e, e1, e2, e3, e4, e5⟩ := ih (c + 1) r (by omega) (by omega) (by omega) h4 (.inr (by rw [show n - (c + 1) = n - 1 - c by omega, show c + 1 - 1 = c by omega]; exact hf)) h6
        exact ⟨e, e1, e2, e3, e4, fun res hres => step res (fun h => absurd h hti) (fun _ => e5 res hres)⟩
    · obtain rfl : s = r := by omega
      exact ⟨s, h2, h4, h5, h6, fin s s hsr h2 h4⟩

include ho
theorem sym_run : ∀ (n : Nat) (A B p q : List α) (a m b : Int), A.length + B.length ≤ n → A ≠ [] → B ≠ [] → (p ++ (A ++ (B ++ q))).length ≤ 1000000000000 → (∀ y, y ∈ p ++ (A ++ (B ++ q)) → P y) →
    a = (p.length : Int) → m = (p.length : Int) + (A.length : Int) → b = (p.length : Int) + (A.length : Int) + (B.length : Int) → Sorted lt A → Sorted lt B →
    ∃ S, Sorted lt S ∧ Stab lt (A ++ B) S ∧ Ev (fun k => sym z cmp k (p ++ (A ++ (B ++ q))) a m b) (p ++ (S ++ q)) := by
  intro n
  induction n with
  | zero =>
    intro A B p q a m b hn hA
    exact absurd (List.length_eq_zero_iff.1 (by omega)) hA
  | succ n ih =>
    intro A B p q a m b hn hA hB hb hP ha hm hbb hsA hsB
    have hA0 : 0 < A.length := List.length_pos_iff.2 hA
    have hB0 : 0 < B.length := List.length_pos_iff.2 hB
    have hl : (p ++ (A ++ (B ++ q))).length = p.length + A.length + B.length + q.length := by simp; omega
    have hb2 := hb
    rw [hl] at hb
    have w1 : wrap64 (m - a) = (A.length : Int) := by rw [wrap_small (by omega) (by omega)]; omega
    have w2 : wrap64 (b - m) = (B.length : Int) := by rw [wrap_small (by omega) (by omega)]; omega
    by_cases cA : A.length = 1
    · obtain ⟨x, rfl⟩ := List.length_eq_one_iff.1 cA
      obtain ⟨S, s1, s2, s3⟩ := syA_run (z := z) ho hc B.length [] B [] p q x a m b (Nat.le_refl _) (by simpa using hb2) (hP x (by simp)) (fun y hy => hP y (by simp [hy])) ha (by simp at hm ⊢; omega) (by simp at hbb ⊢; omega) (by simpa using hsB) (fun y hy => by cases hy) (fun y hy => by cases hy)
      refine ⟨S, s1, by simpa using s2, Ev.step (f := fun k => syA z cmp k (p ++ ([x] ++ (B ++ q))) a m b) (fun k => ?_) (by simpa using s3)⟩
      simp only [sym]
      rw [w1, if_pos (by simp)]
    by_cases cB : B.length = 1
    · obtain ⟨x, rfl⟩ := List.length_eq_one_iff.1 cB
      obtain ⟨S, s1, s2, s3⟩ := syC_run (z := z) ho hc A.length [] A [] p q x m a m (Nat.le_refl _) (by simpa using hb2) (hP x (by simp)) (fun y hy => hP y (by simp [hy])) (by simp; omega) (by simp; omega) (by simp; omega) (by simpa using hsA) (fun y hy => by cases hy) (fun y hy => by cases hy)
      refine ⟨S, s1, by simpa using s2, Ev.step (f := fun k => syC z cmp k (p ++ (A ++ ([x] ++ q))) m a m) (fun k => ?_) (by simpa using s3)⟩
      simp only [sym]
      rw [w1, if_neg (by omega), w2, if_pos (by simp)]
    obtain ⟨mid, hmid⟩ : ∃ x, x = (a + b) / 2 := ⟨_, rfl⟩
    have hh : half a b = mid := by rw [half_eq (by omega) (by omega) (by omega) (by omega), hmid]
    obtain ⟨n', hn'⟩ : ∃ x, x = mid + m := ⟨_, rfl⟩
    have wn : wrap64 (mid + m) = n' := by rw [wrap_small (by omega) (by omega), hn']
    have hz : ∃ lo r0, lo ≤ r0 ∧ a ≤ lo ∧ r0 ≤ m ∧ r0 ≤ mid ∧ n' - lo ≤ b ∧ (lo = a ∨ n' - lo = b) ∧ (r0 = m ∨ r0 = mid) ∧ ∀ res, Ev (fun k => syF z cmp k (p ++ (A ++ (B ++ q))) a m b mid n' lo r0 (n' - 1)) res → Ev (fun k => sym z cmp k (p ++ (A ++ (B ++ q))) a m b) res := by
      by_cases cm : m > mid
      · refine ⟨n' - b, mid, by omega, by omega, by omega, by omega, by omega, by omega, by omega, fun res hres => ?_⟩
        refine Ev.step (f := fun k => syE z cmp k (p ++ (A ++ (B ++ q))) a m b mid n' (n' - b) mid) (fun k => ?_) (Ev.step (fun k => ?_) hres)
        · simp only [sym]
          rw [w1, if_neg (by omega), w2, if_neg (by omega), hh, if_pos cm, wn, wrap_small (x := n' - b) (by omega) (by omega)]
        · simp only [syE]
          rw [wrap_small (x := n' - 1) (by omega) (by omega)]
      · refine ⟨a, m, by omega, by omega, by omega, by omega, by omega, by omega, by omega, fun res hres => ?_⟩
        refine Ev.step (f := fun k => syE z cmp k (p ++ (A ++ (B ++ q))) a m b mid n' a m) (fun k => ?_) (Ev.step (fun k => ?_) hres)
        · simp only [sym]
          rw [w1, if_neg (by omega), w2, if_neg (by omega), hh, if_neg cm, wn]
        · simp only [syE]
          rw [wrap_small (x := n' - 1) (by omega) (by omega)]
    obtain ⟨lo, r0, z1, z2, z3, z4, z5, z6, z7, hsym⟩ := hz
    obtain ⟨e, e1, e2, e3, e4, e5⟩ := syF_run (lt := lt) (z := z) (a := a) (m := m) (b := b) (mid := mid) (n := n') (lo := lo) (r0 := r0) hc hP hb2 (fun c h1 h2 => by rw [hl]; omega) (by omega) (by omega) (by omega) (r0 - lo).toNat lo r0 (by omega) (by omega) z1 (by omega) (.inl rfl) (.inl rfl)
    -- the four parts
    obtain ⟨i1, hi1⟩ : ∃ x : Nat, (x : Int) = e - a := ⟨(e - a).toNat, by omega⟩
    obtain ⟨i2, hi2⟩ : ∃ x : Nat, (x : Int) = mid - e := ⟨(mid - e).toNat, by omega⟩
    obtain ⟨A1, hA1⟩ : ∃ x, x = A.take i1 := ⟨_, rfl⟩
    obtain ⟨A2, hA2⟩ : ∃ x, x = A.drop i1 := ⟨_, rfl⟩
    obtain ⟨B1, hB1⟩ : ∃ x, x = B.take i2 := ⟨_, rfl⟩
    obtain ⟨B2, hB2⟩ : ∃ x, x = B.drop i2 := ⟨_, rfl⟩
    have eA : A = A1 ++ A2 := by rw [hA1, hA2, List.take_append_drop]
    have eB : B = B1 ++ B2 := by rw [hB1, hB2, List.take_append_drop]
    have lA1 : A1.length = i1 := by rw [hA1, List.length_take]; omega
    have lB1 : B1.length = i2 := by rw [hB1, List.length_take]; omega
    have lA : A.length = A1.length + A2.length := by rw [eA]; simp
    have lB : B.length = B1.length + B2.length := by rw [eB]; simp
    clear hA1 hA2 hB1 hB2
    have eL : p ++ (A ++ (B ++ q)) = p ++ (A1 ++ (A2 ++ (B1 ++ (B2 ++ q)))) := by rw [eA, eB]; simp
    have sA1 : Sorted lt A1 := by rw [eA] at hsA; exact hsA.left
    have sA2 : Sorted lt A2 := by rw [eA] at hsA; exact hsA.right
    have sB1 : Sorted lt B1 := by rw [eB] at hsB; exact hsB.left
    have sB2 : Sorted lt B2 := by rw [eB] at hsB; exact hsB.right
    -- the first part is not behind the last
    have F1 : ∀ u, u ∈ A1 → ∀ v, v ∈ B2 → lt v u = false := by
      intro u hu v hv
      have hu0 : 0 < A1.length := List.length_pos_of_mem hu
      have hv0 : 0 < B2.length := List.length_pos_of_mem hv
      rcases e3 with e3 | e3
      · exfalso
        rcases z6 with z6 | z6 <;> omega
      · rcases List.eq_nil_or_concat A1 with h0 | ⟨A1', u0, h0⟩
        · rw [h0] at hu0; simp at hu0
        · rw [List.concat_eq_append] at h0
          obtain ⟨v0, B2', hv0'⟩ := List.exists_cons_of_ne_nil (List.length_pos_iff.1 hv0)
          have l0 : A1.length = A1'.length + 1 := by rw [h0]; simp
          have g1 : rd z (p ++ (A ++ (B ++ q))) (e - 1) = u0 := by
            have := rd_at (z := z) (p := p ++ A1') (q := A2 ++ (B1 ++ (B2 ++ q))) (x := u0) (i := e - 1) (by simp; omega)
            rw [eL, h0]
            simpa using this
          have g2 : rd z (p ++ (A ++ (B ++ q))) (n' - e) = v0 := by
            have := rd_at (z := z) (p := p ++ (A1 ++ (A2 ++ B1))) (q := B2' ++ q) (x := v0) (i := n' - e) (by simp; omega)
            rw [eL, hv0']
            simpa using this
          rw [g1, g2] at e3
          have a1 : lt u0 u = false := by
            rw [h0] at hu sA1
            rcases List.mem_append.1 hu with hu | hu
            · exact sA1.between hu (by simp)
            · rw [List.mem_singleton.1 hu]; exact irr ho _
          have a2 : lt v v0 = false := by
            rw [hv0'] at hv sB2
            rcases List.mem_cons.1 hv with rfl | hv
            · exact irr ho _
            · exact sB2.head hv
          exact ho.ntr a2 (ho.ntr e3 a1)
    have F2 : ∀ x, x ∈ A2 → ∀ y, y ∈ B1 → lt y x = true := by
      intro x hx y hy
      have hx0 : 0 < A2.length := List.length_pos_of_mem hx
      have hy0 : 0 < B1.length := List.length_pos_of_mem hy
      rcases e4 with e4 | e4
      · exfalso
        rcases z7 with z7 | z7 <;> omega
      · rcases List.eq_nil_or_concat B1 with h0 | ⟨B1', y0, h0⟩
        · rw [h0] at hy0; simp at hy0
        · rw [List.concat_eq_append] at h0
          obtain ⟨x0, A2', hx0'⟩ := List.exists_cons_of_ne_nil (List.length_pos_iff.1 hx0)
          have l0 : B1.length = B1'.length + 1 := by rw [h0]; simp
          have g1 : rd z (p ++ (A ++ (B ++ q))) (n' - 1 - e) = y0 := by
            have := rd_at (z := z) (p := p ++ (A1 ++ (A2 ++ B1'))) (q := B2 ++ q) (x := y0) (i := n' - 1 - e) (by simp; omega)
            rw [eL, h0]
            simpa using this
          have g2 : rd z (p ++ (A ++ (B ++ q))) e = x0 := by
            have := rd_at (z := z) (p := p ++ A1) (q := A2' ++ (B1 ++ (B2 ++ q))) (x := x0) (i := e) (by simp; omega)
            rw [eL, hx0']
            simpa using this
          rw [g1, g2] at e4
          have a1 : lt y0 y = false := by
            rw [h0] at hy sB1
            rcases List.mem_append.1 hy with hy | hy
            · exact sB1.between hy (by simp)
            · rw [List.mem_singleton.1 hy]; exact irr ho _
          have a2 : lt x x0 = false := by
            rw [hx0'] at hx sA2
            rcases List.mem_cons.1 hx with rfl | hx
            · exact irr ho _
            · exact sA2.head hx
          cases hyx : lt y x with
          | true => rfl
          | false => exact absurd e4 (by rw [ho.ntr a1 (ho.ntr hyx a2)]; simp)
    -- the two halves
    have H1 : ∃ S1, Sorted lt S1 ∧ Stab lt (A1 ++ B1) S1 ∧ (decide (a < e ∧ e < mid) = true → Ev (fun k => sym z cmp k (p ++ (A1 ++ (B1 ++ (A2 ++ (B2 ++ q))))) a e mid) (p ++ (S1 ++ (A2 ++ (B2 ++ q))))) ∧ (decide (a < e ∧ e < mid) = false → S1 = A1 ++ B1) := by
      by_cases c : a < e ∧ e < mid
      · obtain ⟨S1, t1, t2, t3⟩ := ih A1 B1 p (A2 ++ (B2 ++ q)) a e mid (by omega) (List.length_pos_iff.1 (by omega)) (List.length_pos_iff.1 (by omega)) (by simp; omega)
          (fun y hy => hP y (by rw [eL]; simp only [List.mem_append] at hy ⊢; rcases hy with h | h | h | h | h | h <;> simp [h])) ha (by omega) (by omega) sA1 sB1
        exact ⟨S1, t1, t2, fun _ => t3, fun h => absurd c (by simpa using h)⟩
      · refine ⟨A1 ++ B1, ?_, Stab.refl _, fun h => absurd (by simpa using h) c, fun _ => rfl⟩
        by_cases c1 : A1.length = 0
        · rw [List.length_eq_zero_iff.1 c1]; simpa using sB1
        · rw [List.length_eq_zero_iff.1 (show B1.length = 0 by omega)]; simpa using sA1
    obtain ⟨S1, t1, t2, t3, t4⟩ := H1
    have lS1 : S1.length = A1.length + B1.length := by rw [t2.len]; simp
    have H2 : ∃ S2, Sorted lt S2 ∧ Stab lt (A2 ++ B2) S2 ∧ (mid < n' - e ∧ n' - e < b → Ev (fun k => sym z cmp k (p ++ (S1 ++ (A2 ++ (B2 ++ q)))) mid (n' - e) b) (p ++ (S1 ++ (S2 ++ q)))) ∧ (¬ (mid < n' - e ∧ n' - e < b) → S2 = A2 ++ B2) := by
      by_cases c : mid < n' - e ∧ n' - e < b
      · obtain ⟨S2, u1, u2, u3⟩ := ih A2 B2 (p ++ S1) q mid (n' - e) b (by omega) (List.length_pos_iff.1 (by omega)) (List.length_pos_iff.1 (by omega)) (by simp; omega)
          (fun y hy => hP y (by
            rw [eL]
            simp only [List.mem_append] at hy ⊢
            rcases hy with (hy | hy) | hy
            · exact .inl hy
            · have := t2.mem.1 hy
              rw [List.mem_append] at this
              rcases this with h | h
              · exact .inr (.inl h)
              · exact .inr (.inr (.inr (.inl h)))
            · rcases hy with h | h | h
              · exact .inr (.inr (.inl h))
              · exact .inr (.inr (.inr (.inr (.inl h))))
              · exact .inr (.inr (.inr (.inr (.inr h)))))) (by simp; omega) (by simp; omega) (by simp; omega) sA2 sB2
        exact ⟨S2, u1, u2, fun _ => by simpa using u3, fun h => absurd c h⟩
      · refine ⟨A2 ++ B2, ?_, Stab.refl _, fun h => absurd h c, fun _ => rfl⟩
        by_cases c1 : A2.length = 0
        · rw [List.length_eq_zero_iff.1 c1]; simpa using sB2
        · rw [List.length_eq_zero_iff.1 (show B2.length = 0 by omega)]; simpa using sA2
    obtain ⟨S2, u1, u2, u3, u4⟩ := H2
    refine ⟨S1 ++ S2, Sorted.app t1 u1 (fun x hx y hy => ?_), ?_, hsym _ (e5 _ ?_)⟩
    · have hx' := t2.mem.1 hx
      have hy' := u2.mem.1 hy
      rw [List.mem_append] at hx' hy'
      rcases hx' with hx' | hx' <;> rcases hy' with hy' | hy'
      · rw [eA] at hsA; exact hsA.between hx' hy'
      · exact F1 x hx' y hy'
      · exact ho.asymm (F2 y hy' x hx')
      · rw [eB] at hsB; exact hsB.between hx' hy'
    · have r1 := Stab.app (Stab.refl (lt := lt) A1) (Stab.app (Stab.rot (lt := lt) ho (U := A2) (V := B1) F2) (Stab.refl (lt := lt) B2))
      have r2 := Stab.app t2 u2
      rw [eA, eB]
      refine Stab.trans ?_ r2
      simpa using r1
    · refine syG_run (L1 := p ++ (A1 ++ (B1 ++ (A2 ++ (B2 ++ q))))) (fun hf => ?_) (fun hf => ?_) (syH_run ?_)
      · have hf' : e < m ∧ m < n' - e := by simpa using hf
        have r := rot_run (z := z) (A2.length + B1.length) A2 B1 (p ++ A1) (B2 ++ q) m (wrap64 (m - e)) (wrap64 (n' - e - m)) (Nat.le_refl _) (List.length_pos_iff.1 (by omega)) (List.length_pos_iff.1 (by omega)) (by simp; omega) (by simp; omega) (by rw [wrap_small (by omega) (by omega)]; omega) (by rw [wrap_small (by omega) (by omega)]; omega)
        rw [eL]
        simpa using r
      · have hf' : ¬ (e < m ∧ m < n' - e) := by simpa using hf
        rw [eL]
        by_cases c1 : A2.length = 0
        · rw [List.length_eq_zero_iff.1 c1]; simp
        · rw [List.length_eq_zero_iff.1 (show B1.length = 0 by omega)]; simp
      · refine syI_run (L1 := p ++ (S1 ++ (A2 ++ (B2 ++ q)))) t3 (fun hf => by rw [t4 hf]; simp) (fun hc2 => by simpa using u3 hc2) (fun hc2 => by rw [u4 hc2]; simp)
end
end Go.Proofs.YtkolbflmihfokaaW.Sort
