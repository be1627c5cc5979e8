/- On packed bytes both decoders answer the names. -/
import Derived.Test.YtbcocpaeehgmnaaDoorPureLuJ
namespace Go.Proofs.YtbcocpaeehgmnaaDoor.Pure
open Go.RowKit Go.Proofs.YtbcocpaeehgmnaaDoor.Lp Go.Proofs.YtbcocpaeehgmnaaDoor.Runes Go.Proofs.YtbcocpaeehgmnaaDoorW.PrintWords Go.Proofs.YtbcocpaeehgmnaaDoorW.PrintLast

theorem okAll_each : ∀ (l : List (List UInt8)) (i : Nat), okAll i l = true → ∀ s ∈ l, 1 ≤ s.length ∧ s.length ≤ 20 := by
  intro l
  induction l with
  | nil => intro i _ s hs; cases hs
  | cons a r ih =>
    intro i h s hs
    rw [okAll, Bool.and_eq_true] at h
    rcases List.mem_cons.1 hs with hs | hs
    · subst hs
      have h1 := h.1
      unfold okAt goodL at h1
      simp only [Bool.or_eq_true, Bool.and_eq_true, decide_eq_true_eq] at h1
      rcases h1 with ⟨⟨⟨h2, h3⟩, _⟩, _⟩ | ⟨h2, _⟩
      · exact ⟨h2, h3⟩
      · rw [h2]; exact ⟨by simp, by simp⟩
    · exact ih (i + 1) h.2 s hs
theorem valid_sizes (A : List UInt8) (h : (labelsL A).2 = 0) : ∀ s ∈ (labelsL A).1, 1 ≤ s.length ∧ s.length ≤ 20 := by
  unfold labelsL at h ⊢
  by_cases c1 : A.length > 80
  · rw [if_pos c1] at h; cases h
  rw [if_neg c1] at h ⊢
  by_cases c2 : A = [46]
  · rw [if_pos c2]; intro s hs; cases hs
  rw [if_neg c2] at h ⊢
  by_cases c3 : (A.getLast? == some 46) = true
  · rw [if_pos c3] at h ⊢
    by_cases c4 : okAll 0 (cutL A.dropLast) = true
    · rw [if_pos c4] at h ⊢
      by_cases c5 : (cutL A.dropLast).length > 8
      · rw [if_pos c5] at h; cases h
      · rw [if_neg c5]; exact okAll_each _ 0 c4
    · rw [if_neg c4] at h; cases h
  · rw [if_neg c3] at h; cases h
theorem valid_each (s : ByteArray) (h : (labs s).2 = 0) : ∀ a ∈ (labs s).1, (∀ x ∈ a, x ≠ 46) ∧ 1 ≤ a.length ∧ a.length < 64 := by
  intro a ha
  have h1 := valid_sizes s.data.toList h a ha
  refine ⟨?_, h1.1, by omega⟩
  rcases valid_name s.data.toList h with ⟨_, h2⟩ | ⟨_, _, _, h2⟩
  · have ha2 : a ∈ (labelsL s.data.toList).1 := ha
    rw [h2] at ha2; cases ha2
  · exact h2 a ha
theorem name_back (s : ByteArray) (h : (labs s).2 = 0) : mk (nameL (labs s).1) = s := by
  have e : nameL (labs s).1 = s.data.toList := by
    rcases valid_name s.data.toList h with ⟨h1, h2⟩ | ⟨h1, h2, _⟩
    · show nameL (labelsL s.data.toList).1 = _
      rw [h2, h1]; rfl
    · show nameL (labelsL s.data.toList).1 = _
      unfold nameL
      rw [if_neg h1]; exact h2.symm
  rw [e, mk_of]
theorem putP_prefix : ∀ (l : List (List UInt8)) (o : List Int) (kn : List (ByteArray × Int)), ∃ T, (putP l o kn).1 = o ++ T := by
  intro l
  induction l with
  | nil => intro o kn; exact ⟨[0], by rw [putP]⟩
  | cons x r ih =>
    intro o kn
    rw [putP]
    split
    · exact ⟨_, rfl⟩
    · obtain ⟨T, hT⟩ := ih ((o ++ [(x.length : Int)]) ++ bytesOf (mk x)) (kn ++ [(mk (nameL (x :: r)), (o.length : Int))])
      exact ⟨[(x.length : Int)] ++ bytesOf (mk x) ++ T, by rw [hT]; simp⟩
theorem packP_prefix : ∀ (l : List ByteArray) (o : List Int) (kn : List (ByteArray × Int)), firstCode l = 0 → ∃ T, (packP l o kn).1 = o ++ T := by
  intro l
  induction l with
  | nil => intro o kn _; exact ⟨[], by rw [packP]; simp⟩
  | cons s r ih =>
    intro o kn h
    rw [firstCode] at h
    rw [packP]
    by_cases c : (labs s).2 = 0
    · rw [if_pos c] at h ⊢
      obtain ⟨T, hT⟩ := ih (putP (labs s).1 o kn).1 (putP (labs s).1 o kn).2 h
      obtain ⟨T2, hT2⟩ := putP_prefix (labs s).1 o kn
      exact ⟨T2 ++ T, by rw [hT, hT2, List.append_assoc]⟩
    · rw [if_neg c] at h; exact absurd h c
/-- One name of packed bytes: its place tells its labels; what is known stays good. -/
theorem step_good {L : List UInt8} (hL : L.length ≤ 600) (s : ByteArray) (r : List ByteArray) (m : Nat) (o : List Int) (kn : List (ByteArray × Int)) (hm : m < 256) (hM : Mid m o kn) (hst : ∀ p ∈ kn, p.2 ≤ 4000) (hg : ∀ p ∈ kn, Good (toU o) p) (h0 : firstCode (s :: r) = 0) (hE : L = toU (packP (s :: r) o kn).1) :
    (labs s).2 = 0 ∧ firstCode r = 0 ∧ L = toU (packP r (putP (labs s).1 o kn).1 (putP (labs s).1 o kn).2).1 ∧ (∃ z n, At L o.length (labs s).1 (putP (labs s).1 o kn).1.length z n ∧ n ≤ 17) ∧
      Mid (m + 1) (putP (labs s).1 o kn).1 (putP (labs s).1 o kn).2 ∧ (∀ p ∈ (putP (labs s).1 o kn).2, p.2 ≤ 4000) ∧ ∀ p ∈ (putP (labs s).1 o kn).2, Good (toU (putP (labs s).1 o kn).1) p := by
  rw [firstCode] at h0
  by_cases c : (labs s).2 = 0
  · rw [if_pos c] at h0
    rw [packP, if_pos c] at hE
    obtain ⟨T2, hT2⟩ := packP_prefix r (putP (labs s).1 o kn).1 (putP (labs s).1 o kn).2 h0
    obtain ⟨T1, hT1⟩ := putP_prefix (labs s).1 o kn
    have hol : o.length ≤ 600 := by
      have : L.length = o.length + T1.length + T2.length := by rw [hE, toU_length, hT2, hT1]; simp; omega
      omega
    have hfl : (flat (labs s).1).length ≤ 80 := flat_short s.data.toList c
    have h8 : (labs s).1.length ≤ 8 := (labels_facts s.data.toList).1
    obtain ⟨⟨T, hT⟩, ⟨z, n, hA, hn⟩, hk⟩ := put_good (labs s).1 o kn (valid_each s c) (by omega) hst (fun p hp => .inl (hg p hp))
    refine ⟨c, h0, hE, ⟨z, n, ?_, by omega⟩, mid_next hM hm s c, putP_strong _ o kn (by omega) hst, fun p hp => ?_⟩
    · rw [hE, hT2, toU_append]
      exact hA.more _
    · rcases hk p hp with h | h
      · exact h
      · rw [hT]; exact (hg p h).more _
  · rw [if_neg c] at h0; exact absurd h0 c
section
variable {L : List UInt8}
theorem unpack_run (hL : L.length ≤ 600) (res : List ByteArray × Int) : ∀ (r : List ByteArray) (m : Nat) (o : List Int) (kn : List (ByteArray × Int)) (acc : List ByteArray), m + r.length ≤ 256 → acc.length = m → Mid m o kn → (∀ p ∈ kn, p.2 ≤ 4000) → (∀ p ∈ kn, Good (toU o) p) → firstCode r = 0 → L = toU (packP r o kn).1 →
    Ev (fun k => label_Unpack.l0 k (mk L) (acc ++ r) (L.length : Int)) res → Ev (fun k => label_Unpack.l0 k (mk L) acc (o.length : Int)) res := by
  intro r
  induction r with
  | nil =>
    intro m o kn acc _ _ _ _ _ _ hE h
    rw [packP] at hE
    have : L.length = o.length := by rw [hE, toU_length]
    rw [List.append_nil, this] at h
    exact h
  | cons s r ih =>
    intro m o kn acc hm ha hM hst hg h0 hE h
    simp only [List.length_cons] at hm
    obtain ⟨c, h1, hE2, ⟨z, n, hA, hn⟩, hM2, hst2, hg2⟩ := step_good hL s r m o kn (by omega) hM hst hg h0 hE
    have hlt := hA.lt
    have hlf := labels_facts s.data.toList
    have h8 : (labs s).1.length ≤ 8 := hlf.1
    have ht : Ev (fun k => label_take.f k (mk L) (o.length : Int)) ((labs s).1.map mk, ((putP (labs s).1 o kn).1.length : Int)) := by
      have := take_at (by omega) hA [] (-1) 0 (by omega) (by simp) (.inl rfl)
      rw [if_pos rfl, List.nil_append] at this
      exact this
    have hj : label_join.f ((labs s).1.map mk) = some s := by rw [join_at (labs s).1 (by omega) hlf.2, name_back s c]
    refine Ev.step (f := fun k => (label_take.f k (mk L) (o.length : Int)).bind fun bt => if bt.2 < 0 then some (([] : List ByteArray), (3 : Int)) else (label_join.f bt.1).bind fun t => if acc.length < 8796093022208 then label_Unpack.l0 k (mk L) (acc ++ [t]) bt.2 else none) (fun k => ?_) (Ev.bind ht ?_)
    · rw [label_Unpack.l0, if_pos (by rw [mk_size]; omega)]
    · refine Ev.congr (fun k => ?_) (ih (m + 1) _ _ (acc ++ [s]) (by omega) (by simp; omega) hM2 hst2 hg2 h1 hE2 (by rw [List.append_assoc]; exact h))
      simp only []
      rw [if_neg (by omega), hj, Option.bind_some, if_pos (by omega)]
theorem names_run (hL : L.length ≤ 600) (res : List ByteArray × Bool) : ∀ (r : List ByteArray) (m : Nat) (o : List Int) (kn : List (ByteArray × Int)) (acc : List ByteArray), m + r.length ≤ 256 → acc.length = m → Mid m o kn → (∀ p ∈ kn, p.2 ≤ 4000) → (∀ p ∈ kn, Good (toU o) p) → firstCode r = 0 → L = toU (packP r o kn).1 →
    Ev (fun k => patchbayref4_UnpackNames.l0 k (mk L) (acc ++ r) (L.length : Int)) res → Ev (fun k => patchbayref4_UnpackNames.l0 k (mk L) acc (o.length : Int)) res := by
  intro r
  induction r with
  | nil =>
    intro m o kn acc _ _ _ _ _ _ hE h
    rw [packP] at hE
    have : L.length = o.length := by rw [hE, toU_length]
    rw [List.append_nil, this] at h
    exact h
  | cons s r ih =>
    intro m o kn acc hm ha hM hst hg h0 hE h
    simp only [List.length_cons] at hm
    obtain ⟨c, h1, hE2, ⟨z, n, hA, hn⟩, hM2, hst2, hg2⟩ := step_good hL s r m o kn (by omega) hM hst hg h0 hE
    have hlt := hA.lt
    have hlf := labels_facts s.data.toList
    have h8 : (labs s).1.length ≤ 8 := hlf.1
    have ht : Ev (fun k => patchbayref4_nameAt.f k (mk L) (o.length : Int) 40) ((labs s).1.map mk, ((putP (labs s).1 o kn).1.length : Int)) := name_at (by omega) hA 40 (by omega) (by omega) (by omega)
    have hj : Ev (fun k => patchbayref4_NameOf.f k ((labs s).1.map mk)) s := ⟨1001, fun k hk => by have e := nameOf_at (labs s).1 (by omega) hlf.2 k (by omega); rw [name_back s c] at e; exact e⟩
    refine Ev.step (f := fun k => (patchbayref4_nameAt.f k (mk L) (o.length : Int) 40).bind fun bt => if bt.2 < 0 then some (([] : List ByteArray), false) else (patchbayref4_NameOf.f k bt.1).bind fun t => if acc.length < 8796093022208 then patchbayref4_UnpackNames.l0 k (mk L) (acc ++ [t]) bt.2 else none) (fun k => ?_) (Ev.bind ht ?_)
    · rw [patchbayref4_UnpackNames.l0, if_pos (by rw [mk_size]; omega)]
    · refine Ev.congr (fun k => if_neg (by simp only []; omega)) (Ev.bind hj (Ev.congr (fun k => ?_) (ih (m + 1) _ _ (acc ++ [s]) (by omega) (by simp; omega) hM2 hst2 hg2 h1 hE2 (by rw [List.append_assoc]; exact h))))
      rw [if_pos (by omega)]
theorem unpack_ok (hL : L.length ≤ 600) (X : List ByteArray) (hX : X.length ≤ 256) (h0 : firstCode X = 0) (hE : mk L = strOfNums (packP X [] []).1) : Ev (fun k => label_Unpack.l0 k (mk L) [] 0) (X, 0) := by
  have hE2 : L = toU (packP X [] []).1 := mk_inj (hE.trans (strOf_mk _))
  have hl : (packP X [] []).1.length ≤ 600 := by have := congrArg List.length hE2; rw [toU_length] at this; omega
  refine unpack_run hL (X, 0) X 0 [] [] [] (by omega) rfl mid0 (fun p hp => by cases hp) (fun p hp => by cases hp) h0 hE2 ?_
  refine Ev.step (f := fun k => (label_Pack.f k X).bind fun bt => if bt.2 = 0 then (if bt.1.toList = (mk L).toList then some (X, (0 : Int)) else some (([] : List ByteArray), 3)) else some (([] : List ByteArray), 3)) (fun k => ?_) (Ev.bind (Pack_ok hX h0 hl) ?_)
  · rw [List.nil_append, label_Unpack.l0, if_neg (by rw [mk_size]; omega)]
  · exact Ev.congr (fun k => by rw [if_pos (show (strOfNums (packP X [] []).1, (0 : Int)).2 = 0 from rfl), if_pos (by rw [hE])]) (Ev.now _)
theorem names_ok (hL : L.length ≤ 600) (X : List ByteArray) (hX : X.length ≤ 256) (h0 : firstCode X = 0) (hE : mk L = strOfNums (packP X [] []).1) : Ev (fun k => patchbayref4_UnpackNames.l0 k (mk L) [] 0) (X, true) := by
  have hE2 : L = toU (packP X [] []).1 := mk_inj (hE.trans (strOf_mk _))
  refine names_run hL (X, true) X 0 [] [] [] (by omega) rfl mid0 (fun p hp => by cases hp) (fun p hp => by cases hp) h0 hE2 ?_
  have hb : ((strOfNums (packP X [] []).1).toList == (mk L).toList) = true := by rw [hE]; simp
  refine Ev.step (f := fun k => patchbayref4_UnpackNames.l1 k (mk L) X X (X.length : Int) 0) (fun k => ?_) (l1_end_ (L := L) X (by omega) X (X, true) (Ev.congr (fun k => by rw [if_pos (by omega), if_pos (by rw [mk_size]; omega)]) (Ev.bind (PackNames_ok X hX h0) (by rw [hb]; exact Ev.now _))) X.length 0 (by omega) h0)
  rw [List.nil_append, patchbayref4_UnpackNames.l0, if_neg (by rw [mk_size]; omega)]
end
end Go.Proofs.YtbcocpaeehgmnaaDoor.Pure
