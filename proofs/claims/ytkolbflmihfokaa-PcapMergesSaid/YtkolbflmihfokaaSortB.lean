/- Go's stable sort: the part by insertion. -/
import Derived.Test.YtkolbflmihfokaaSortA
namespace Go.Proofs.YtkolbflmihfokaaW.Sort
open Go.RowKit Go.Proofs.YtkolbflmihfokaaW.PrintWords

section
variable {α : Type} {z : α}
theorem rd_at {p q : List α} {x : α} {i : Int} (h : i = (p.length : Int)) : rd z (p ++ x :: q) i = x := by subst h; simp [rd]
theorem set_at {p q : List α} {x y : α} {n : Nat} (h : n = p.length) : (p ++ x :: q).set n y = p ++ y :: q := by subst h; simp
theorem rd_mem {L : List α} {i : Int} (h0 : 0 ≤ i) (h1 : i < (L.length : Int)) : rd z L i ∈ L := by
  unfold rd
  have h : i.toNat < L.length := by omega
  rw [List.getD_eq_getElem?_getD, List.getElem?_eq_getElem h]
  exact List.getElem_mem h
theorem wrap_small {x : Int} (h0 : -4611686018427387904 ≤ x) (h1 : x ≤ 4611686018427387904) : wrap64 x = x := by unfold wrap64; omega
theorem half_eq {x y : Int} (h0 : 0 ≤ x) (h1 : 0 ≤ y) (hx : x ≤ 1000000000000) (hy : y ≤ 1000000000000) : half x y = (x + y) / 2 := by
  unfold half
  rw [wrap_small (x := x + y) (by omega) (by omega), IntKind.wrap_u64]
  have : (x + y) % 18446744073709551616 = x + y := by omega
  rw [this]
  exact wrap_small (by omega) (by omega)
end

section
variable {α : Type} {lt : α → α → Bool} {z : α} {cmp : Nat → α → α → Option Int} {P : α → Prop}

/-- The comparison tells the order. -/
def Tells (lt : α → α → Bool) (cmp : Nat → α → α → Option Int) (P : α → Prop) : Prop := ∀ x y, P x → P y → ∃ t, Ev (fun k => cmp k x y) t ∧ (t < 0 ↔ lt x y = true)

theorem insA_end {L : List α} {a b i : Int} (h : ¬ i < b) : Ev (fun k => insA z cmp k L a b i) L := by
  refine Ev.step (f := fun _ => some L) (fun k => ?_) (Ev.now L)
  simp only [insA]
  rw [if_neg h]
theorem insA_go {L : List α} {a b i : Int} {r : List α} (h : i < b) (k : Ev (fun k => insB z cmp k L a b i i) r) : Ev (fun k => insA z cmp k L a b i) r := by
  refine Ev.step (f := fun k => insB z cmp k L a b i i) (fun k => ?_) k
  simp only [insA]
  rw [if_pos h]
theorem insB_end {L : List α} {a b i j : Int} {r : List α} (h : ¬ j > a) (k : Ev (fun k => insA z cmp k L a b (wrap64 (i + 1))) r) : Ev (fun k => insB z cmp k L a b i j) r := by
  refine Ev.step (f := fun k => insA z cmp k L a b (wrap64 (i + 1))) (fun k => ?_) k
  simp only [insB]
  rw [if_neg h]

/-- One round: the element at j is compared with the one ahead of it. -/
theorem insB_step {p q : List α} {y x : α} {a b i j t : Int} (hb : (p ++ y :: x :: q).length ≤ 1000000000000) (ha : a ≤ (p.length : Int)) (hj : j = (p.length : Int) + 1) (hc : Ev (fun k => cmp k x y) t) {r : List α}
    (h1 : t < 0 → Ev (fun k => insB z cmp k (p ++ x :: y :: q) a b i (p.length : Int)) r) (h2 : ¬ t < 0 → Ev (fun k => insA z cmp k (p ++ y :: x :: q) a b (wrap64 (i + 1))) r) :
    Ev (fun k => insB z cmp k (p ++ y :: x :: q) a b i j) r := by
  have hl : (p ++ y :: x :: q).length = p.length + (q.length + 2) := by simp
  rw [hl] at hb
  have hw : wrap64 (j - 1) = (p.length : Int) := by rw [wrap_small (by omega) (by omega)]; omega
  have e1 : rd z (p ++ y :: x :: q) j = x := by
    have := rd_at (z := z) (p := p ++ [y]) (q := q) (x := x) (i := j) (by simp; omega)
    simpa using this
  have e2 : rd z (p ++ y :: x :: q) (p.length : Int) = y := rd_at rfl
  refine Ev.step (f := fun k => (cmp k x y).bind fun t => if t < 0 then insB z cmp k (p ++ x :: y :: q) a b i (p.length : Int) else insA z cmp k (p ++ y :: x :: q) a b (wrap64 (i + 1))) (fun k => ?_) (Ev.bind hc ?_)
  · simp only [insB]
    rw [if_pos (by omega : j > a), if_pos (by omega : 0 ≤ j), if_pos (by rw [hl]; omega), hw, if_pos (by omega : 0 ≤ (p.length : Int)), if_pos (by rw [hl]; omega), e1, e2]
    have es : ((p ++ y :: x :: q).set j.toNat y).set (p.length : Int).toNat x = p ++ x :: y :: q := by
      have s1 : (p ++ y :: x :: q).set j.toNat y = p ++ y :: y :: q := by
        have := set_at (p := p ++ [y]) (q := q) (x := x) (y := y) (n := j.toNat) (by simp; omega)
        simpa using this
      rw [s1]
      exact set_at (by omega)
    rw [es]
  · by_cases ht : t < 0
    · refine Ev.congr (fun k => ?_) (h1 ht)
      rw [if_pos ht]
    · refine Ev.congr (fun k => ?_) (h2 ht)
      rw [if_neg ht]

variable (ho : Ord_ lt) (hc : Tells lt cmp P)
include ho hc

theorem insB_run : ∀ (n : Nat) (d1 d2 : List α) (x : α) (pre post : List α) (a b i j : Int), d1.length = n → (pre ++ (d1 ++ (x :: (d2 ++ post)))).length ≤ 1000000000000 →
    (∀ y, y ∈ d1 → P y) → P x → a = (pre.length : Int) → j = (pre.length : Int) + (d1.length : Int) → Sorted lt (d1 ++ d2) → (∀ y, y ∈ d2 → lt x y = true) →
    ∃ S, Sorted lt S ∧ Stab lt (d1 ++ (x :: d2)) S ∧ ∀ r, Ev (fun k => insA z cmp k (pre ++ (S ++ post)) a b (wrap64 (i + 1))) r → Ev (fun k => insB z cmp k (pre ++ (d1 ++ (x :: (d2 ++ post)))) a b i j) r := by
  intro n
  induction n with
  | zero =>
    intro d1 d2 x pre post a b i j hn hb hp hx ha hj hs hl
    obtain rfl : d1 = [] := List.length_eq_zero_iff.1 hn
    refine ⟨x :: d2, Sorted.cons hs (fun y hy => ho.asymm (hl y hy)), Stab.refl _, fun r hr => insB_end (by simp at hj; omega) ?_⟩
    simpa using hr
  | succ n ih =>
    intro d1 d2 x pre post a b i j hn hb hp hx ha hj hs hl
    rcases List.eq_nil_or_concat d1 with h0 | ⟨d, y, h0⟩
    · subst h0; simp at hn
    · rw [List.concat_eq_append] at h0
      subst h0
      have hdl : d.length = n := by simpa using hn
      obtain ⟨t, ht, htl⟩ := hc x y hx (hp y (by simp))
      have eL : pre ++ (d ++ [y] ++ (x :: (d2 ++ post))) = (pre ++ d) ++ y :: x :: (d2 ++ post) := by simp
      have eL2 : (pre ++ d) ++ x :: y :: (d2 ++ post) = pre ++ (d ++ (x :: ((y :: d2) ++ post))) := by simp
      have hj' : j = ((pre ++ d).length : Int) + 1 := by rw [hj]; simp; omega
      by_cases hlt : lt x y = true
      · have hs' : Sorted lt (d ++ (y :: d2)) := by simpa using hs
        obtain ⟨S, hS1, hS2, hS3⟩ := ih d (y :: d2) x pre post a b i ((pre.length : Int) + (d.length : Int)) hdl (by rw [eL] at hb; rw [← eL2]; simpa using hb) (fun y' hy' => hp y' (by simp [hy'])) hx ha rfl hs'
          (fun y' hy' => by
            rcases List.mem_cons.1 hy' with rfl | hy'
            · exact hlt
            · exact hl y' hy')
        refine ⟨S, hS1, Stab.trans ?_ hS2, fun r hr => ?_⟩
        · have := Stab.app (Stab.refl (lt := lt) d) (Stab.app (Stab.rot (lt := lt) ho (U := [y]) (V := [x]) (by simpa using hlt)) (Stab.refl (lt := lt) d2))
          simpa using this
        · rw [eL]
          refine insB_step (by rw [← eL]; exact hb) (by simp; omega) hj' ht (fun _ => ?_) (fun hn' => absurd (htl.2 hlt) hn')
          rw [eL2, List.length_append, Int.natCast_add]
          exact hS3 r hr
      · have hlt' : lt x y = false := by simpa using hlt
        refine ⟨d ++ [y] ++ (x :: d2), ?_, Stab.refl _, fun r hr => ?_⟩
        · refine Sorted.app hs.left (Sorted.cons hs.right (fun w hw => ho.asymm (hl w hw))) (fun w hw v hv => ?_)
          have hyw : lt y w = false := by
            rcases List.mem_append.1 hw with hw | hw
            · exact hs.left.between hw (by simp)
            · obtain rfl : w = y := by simpa using hw
              exact irr ho _
          rcases List.mem_cons.1 hv with rfl | hv
          · exact ho.ntr hlt' hyw
          · exact hs.between hw hv
        · rw [eL]
          refine insB_step (by rw [← eL]; exact hb) (by simp; omega) hj' ht (fun h => absurd (htl.1 h) hlt) (fun _ => ?_)
          simpa using hr

theorem insA_run : ∀ (rest done pre post : List α) (a b i : Int), (pre ++ (done ++ (rest ++ post))).length ≤ 1000000000000 → (∀ y, y ∈ done ++ rest → P y) →
    a = (pre.length : Int) → i = (pre.length : Int) + (done.length : Int) → b = (pre.length : Int) + (done.length : Int) + (rest.length : Int) → Sorted lt done →
    ∃ S, Sorted lt S ∧ Stab lt (done ++ rest) S ∧ Ev (fun k => insA z cmp k (pre ++ (done ++ (rest ++ post))) a b i) (pre ++ (S ++ post)) := by
  intro rest
  induction rest with
  | nil =>
    intro done pre post a b i hb hp ha hi hbb hs
    refine ⟨done, hs, by simpa using Stab.refl _, ?_⟩
    simp only [List.nil_append]
    exact insA_end (by simp at hbb; omega)
  | cons x rest ih =>
    intro done pre post a b i hb hp ha hi hbb hs
    simp only [List.length_append, List.length_cons] at hb hbb
    obtain ⟨S, hS1, hS2, hS3⟩ := insB_run (z := z) ho hc done.length done [] x pre (rest ++ post) a b i i rfl (by simp; omega) (fun y hy => hp y (by simp [hy])) (hp x (by simp)) ha hi (by simpa using hs) (fun y hy => by cases hy)
    have hSl : S.length = done.length + 1 := by have := hS2.len; simpa using this
    obtain ⟨S', hT1, hT2, hT3⟩ := ih S pre post a b (wrap64 (i + 1)) (by simp; omega)
      (fun y hy => by
        rcases List.mem_append.1 hy with hy | hy
        · have : y ∈ done ++ [x] := hS2.mem.1 hy
          exact hp y (by rcases List.mem_append.1 this with h | h <;> simp_all)
        · exact hp y (by simp [hy]))
      ha (by rw [wrap_small (by omega) (by omega)]; omega) (by omega) hS1
    refine ⟨S', hT1, Stab.trans ?_ hT2, insA_go (by omega) ?_⟩
    · have := Stab.app hS2 (Stab.refl (lt := lt) rest)
      simpa using this
    · have := hS3 _ hT3
      simpa using this

/-- The block between two others, sorted by insertion. -/
theorem ins_run (B pre post : List α) (a b : Int) (hb : (pre ++ (B ++ post)).length ≤ 1000000000000) (hp : ∀ y, y ∈ B → P y) (ha : a = (pre.length : Int)) (hbb : b = (pre.length : Int) + (B.length : Int)) :
    ∃ S, Sorted lt S ∧ Stab lt B S ∧ Ev (fun k => insA z cmp k (pre ++ (B ++ post)) a b (wrap64 (a + 1))) (pre ++ (S ++ post)) := by
  simp only [List.length_append] at hb
  have hw : wrap64 (a + 1) = a + 1 := wrap_small (by omega) (by omega)
  rw [hw]
  cases B with
  | nil => exact ⟨[], Sorted.nil, Stab.refl _, insA_end (by simp at hbb; omega)⟩
  | cons x B =>
    obtain ⟨S, h1, h2, h3⟩ := insA_run (z := z) ho hc B [x] pre post a b (a + 1) (by simp at hb ⊢; omega) (by simpa using hp) ha (by simp; omega) (by simp at hbb ⊢; omega) (Sorted.one x)
    exact ⟨S, h1, by simpa using h2, by simpa using h3⟩
end
end Go.Proofs.YtkolbflmihfokaaW.Sort
