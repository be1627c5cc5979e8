/- Go's stable sort (blocks by insertion, then merges by rotation), over any elements: it returns the elements in order, equal ones as they stood. No condition but that the comparison is an order on the elements. -/
import Derived.Test.YtbcocpaeehgmnaaDoorUWords
namespace Go.Proofs.YtbcocpaeehgmnaaDoorW.Sort
open Go.RowKit Go.Proofs.YtbcocpaeehgmnaaDoorW.PrintWords

/-! ### what is sorted -/
section
variable {α : Type} (lt : α → α → Bool)

/-- An order: what is not before and not behind is equal. -/
structure Ord_ : Prop where
  asymm : ∀ {x y}, lt x y = true → lt y x = false
  ntr : ∀ {x y w}, lt x y = false → lt y w = false → lt x w = false

def Sorted (L : List α) : Prop := L.Pairwise (fun x y => lt y x = false)
def eqv (x y : α) : Bool := !lt x y && !lt y x
/-- The same elements, equal ones in the same order. -/
def Stab (L R : List α) : Prop := L.Perm R ∧ ∀ x, L.filter (eqv lt x) = R.filter (eqv lt x)
end

section
variable {α : Type} {lt : α → α → Bool} (ho : Ord_ lt)

theorem Stab.refl (L : List α) : Stab lt L L := ⟨List.Perm.refl _, fun _ => rfl⟩
theorem Stab.trans {L M R : List α} (h : Stab lt L M) (h' : Stab lt M R) : Stab lt L R := ⟨h.1.trans h'.1, fun x => (h.2 x).trans (h'.2 x)⟩
theorem Stab.symm {L M : List α} (h : Stab lt L M) : Stab lt M L := ⟨h.1.symm, fun x => (h.2 x).symm⟩
theorem Stab.app {L R L' R' : List α} (h : Stab lt L R) (h' : Stab lt L' R') : Stab lt (L ++ L') (R ++ R') :=
  ⟨h.1.append h'.1, fun x => by rw [List.filter_append, List.filter_append, h.2, h'.2]⟩
theorem Stab.len {L R : List α} (h : Stab lt L R) : R.length = L.length := h.1.length_eq.symm
theorem Stab.mem {L R : List α} (h : Stab lt L R) {x : α} : x ∈ R ↔ x ∈ L := h.1.mem_iff.symm
include ho in
theorem eqv_not {x y w : α} (h : lt y x = true) (hx : eqv lt w x = true) (hy : eqv lt w y = true) : False := by
  simp only [eqv, Bool.and_eq_true, Bool.not_eq_true'] at hx hy
  have := ho.ntr hy.2 hx.1
  rw [h] at this
  cases this
include ho in
theorem Stab.rot {U V : List α} (h : ∀ x, x ∈ U → ∀ y, y ∈ V → lt y x = true) : Stab lt (U ++ V) (V ++ U) := by
  refine ⟨List.perm_append_comm, fun w => ?_⟩
  rw [List.filter_append, List.filter_append]
  by_cases hu : U.filter (eqv lt w) = []
  · rw [hu]; simp
  · have hv : V.filter (eqv lt w) = [] := by
      rw [List.filter_eq_nil_iff]
      intro y hy hw
      obtain ⟨x, hx⟩ := List.exists_mem_of_ne_nil _ hu
      rw [List.mem_filter] at hx
      exact eqv_not ho (h x hx.1 y hy) hx.2 hw
    rw [hv]; simp
theorem Sorted.app {L R : List α} (h : Sorted lt L) (h' : Sorted lt R) (hh : ∀ x, x ∈ L → ∀ y, y ∈ R → lt y x = false) : Sorted lt (L ++ R) :=
  List.pairwise_append.2 ⟨h, h', hh⟩
theorem Sorted.left {L R : List α} (h : Sorted lt (L ++ R)) : Sorted lt L := (List.pairwise_append.1 h).1
theorem Sorted.right {L R : List α} (h : Sorted lt (L ++ R)) : Sorted lt R := (List.pairwise_append.1 h).2.1
theorem Sorted.between {L R : List α} (h : Sorted lt (L ++ R)) {x y : α} (hx : x ∈ L) (hy : y ∈ R) : lt y x = false := (List.pairwise_append.1 h).2.2 x hx y hy
theorem Sorted.nil : Sorted lt [] := List.Pairwise.nil
theorem Sorted.one (x : α) : Sorted lt [x] := List.pairwise_singleton _ _
theorem Sorted.cons {x : α} {L : List α} (h : Sorted lt L) (hh : ∀ y, y ∈ L → lt y x = false) : Sorted lt (x :: L) := List.Pairwise.cons hh h
theorem Sorted.tail {x : α} {L : List α} (h : Sorted lt (x :: L)) : Sorted lt L := (List.pairwise_cons.1 h).2
theorem Sorted.head {x : α} {L : List α} (h : Sorted lt (x :: L)) {y : α} (hy : y ∈ L) : lt y x = false := (List.pairwise_cons.1 h).1 y hy

include ho in
theorem irr (x : α) : lt x x = false := by
  cases h : lt x x with
  | false => rfl
  | true => exact (ho.asymm h).symm.trans h |>.symm ▸ rfl

include ho in
/-- Two sorted lists with the same elements, equal ones in the same order, are one. -/
theorem sorted_unique : ∀ {L R : List α}, Sorted lt L → Sorted lt R → Stab lt L R → L = R := by
  intro L
  induction L with
  | nil => intro R _ _ h; exact (List.Perm.nil_eq h.1)
  | cons x L ih =>
    intro R hL hR h
    cases R with
    | nil => exact absurd h.1.length_eq (by simp)
    | cons y R =>
      have hx : x = y ∨ x ∈ R := by simpa using (h.mem.2 (List.mem_cons_self) : x ∈ y :: R)
      have hy : y = x ∨ y ∈ L := by simpa using (h.mem.1 (List.mem_cons_self) : y ∈ x :: L)
      have a1 : lt x y = false := by rcases hx with rfl | hx; exact irr ho _; exact hR.head hx
      have a2 : lt y x = false := by rcases hy with rfl | hy; exact irr ho _; exact hL.head hy
      have e1 : eqv lt x x = true := by simp [eqv, irr ho]
      have e2 : eqv lt x y = true := by simp [eqv, a1, a2]
      have hf := h.2 x
      rw [List.filter_cons_of_pos e1, List.filter_cons_of_pos e2] at hf
      injection hf with hxy hf
      subst hxy
      refine congrArg _ (ih hL.tail hR.tail ⟨(List.perm_cons _).1 h.1, fun w => ?_⟩)
      have hw := h.2 w
      by_cases hc : eqv lt w x = true
      · rw [List.filter_cons_of_pos hc, List.filter_cons_of_pos hc] at hw
        injection hw
      · rw [List.filter_cons_of_neg hc, List.filter_cons_of_neg hc] at hw
        exact hw
end

/-! ### Go's functions -/
section
variable {α : Type} (z : α) (cmp : Nat → α → α → Option Int)
def rd (xs : List α) (i : Int) : α := xs.getD i.toNat z

mutual
def insA : Nat → List α → Int → Int → Int → Option (List α)
  | 0, _, _, _, _ => none
  | k + 1, x0, x1, x2, x8 => if x8 < x2 then insB k x0 x1 x2 x8 x8 else some x0
def insB : Nat → List α → Int → Int → Int → Int → Option (List α)
  | 0, _, _, _, _, _ => none
  | k + 1, x0, x1, x2, x8, x9 => if x9 > x1 then (if 0 ≤ x9 then (if x9 < (x0.length : Int) then (if 0 ≤ wrap64 (x9 - 1) then (if wrap64 (x9 - 1) < (x0.length : Int) then ((cmp k (rd z x0 x9) (rd z x0 (wrap64 (x9 - 1)))).bind fun t => (if t < 0 then insB k ((x0.set x9.toNat (rd z x0 (wrap64 (x9 - 1)))).set (wrap64 (x9 - 1)).toNat (rd z x0 x9)) x1 x2 x8 (wrap64 (x9 - 1)) else insA k x0 x1 x2 (wrap64 (x8 + 1)))) else none) else none) else none) else none) else insA k x0 x1 x2 (wrap64 (x8 + 1))
end
def swp : Nat → List α → Int → Int → Int → Int → Option (List α)
  | 0, _, _, _, _, _ => none
  | k + 1, x0, x1, x2, x3, x10 => if x10 < x3 then (if 0 ≤ wrap64 (x2 + x10) then (if wrap64 (x2 + x10) < (x0.length : Int) then (if 0 ≤ wrap64 (x1 + x10) then (if wrap64 (x1 + x10) < (x0.length : Int) then swp k ((x0.set (wrap64 (x1 + x10)).toNat (rd z x0 (wrap64 (x2 + x10)))).set (wrap64 (x2 + x10)).toNat (rd z x0 (wrap64 (x1 + x10)))) x1 x2 x3 (wrap64 (x10 + 1)) else none) else none) else none) else none) else some x0
def rot : Nat → List α → Int → Int → Int → Option (List α)
  | 0, _, _, _, _ => none
  | k + 1, x0, x2, x10, x11 => if x10 = x11 then ((swp z k x0 (wrap64 (x2 - x10)) x2 x10 0).bind fun t => some t) else (if x10 > x11 then ((swp z k x0 (wrap64 (x2 - x10)) x2 x11 0).bind fun t => rot k t x2 (wrap64 (x10 - x11)) x11) else ((swp z k x0 (wrap64 (x2 - x10)) (wrap64 ((wrap64 (x2 + x11)) - x10)) x10 0).bind fun t => rot k t x2 x10 (wrap64 (x11 - x10))))
def half (x y : Int) : Int := wrap64 ((IntKind.u64.wrap (wrap64 (x + y))) / 2)
mutual
def syA : Nat → List α → Int → Int → Int → Option (List α)
  | 0, _, _, _, _ => none
  | k + 1, x0, x1, x10, x11 => if x10 < x11 then (if 0 ≤ half x10 x11 then (if half x10 x11 < (x0.length : Int) then (if 0 ≤ x1 then (if x1 < (x0.length : Int) then ((cmp k (rd z x0 (half x10 x11)) (rd z x0 x1)).bind fun t => (if t < 0 then syA k x0 x1 (wrap64 (half x10 x11 + 1)) x11 else syA k x0 x1 x10 (half x10 x11))) else none) else none) else none) else none) else syB k x0 x10 x1
def syB : Nat → List α → Int → Int → Option (List α)
  | 0, _, _, _ => none
  | k + 1, x0, x10, x13 => if x13 < wrap64 (x10 - 1) then (if 0 ≤ wrap64 (x13 + 1) then (if wrap64 (x13 + 1) < (x0.length : Int) then (if 0 ≤ x13 then (if x13 < (x0.length : Int) then syB k ((x0.set x13.toNat (rd z x0 (wrap64 (x13 + 1)))).set (wrap64 (x13 + 1)).toNat (rd z x0 x13)) x10 (wrap64 (x13 + 1)) else none) else none) else none) else none) else some x0
def syC : Nat → List α → Int → Int → Int → Option (List α)
  | 0, _, _, _, _ => none
  | k + 1, x0, x2, x14, x15 => if x14 < x15 then (if 0 ≤ x2 then (if x2 < (x0.length : Int) then (if 0 ≤ half x14 x15 then (if half x14 x15 < (x0.length : Int) then ((cmp k (rd z x0 x2) (rd z x0 (half x14 x15))).bind fun t => (if t < 0 then syC k x0 x2 x14 (half x14 x15) else syC k x0 x2 (wrap64 (half x14 x15 + 1)) x15)) else none) else none) else none) else none) else syD k x0 x14 x2
def syD : Nat → List α → Int → Int → Option (List α)
  | 0, _, _, _ => none
  | k + 1, x0, x14, x17 => if x17 > x14 then (if 0 ≤ wrap64 (x17 - 1) then (if wrap64 (x17 - 1) < (x0.length : Int) then (if 0 ≤ x17 then (if x17 < (x0.length : Int) then syD k ((x0.set x17.toNat (rd z x0 (wrap64 (x17 - 1)))).set (wrap64 (x17 - 1)).toNat (rd z x0 x17)) x14 (wrap64 (x17 - 1)) else none) else none) else none) else none) else some x0
def syE : Nat → List α → Int → Int → Int → Int → Int → Int → Int → Option (List α)
  | 0, _, _, _, _, _, _, _, _ => none
  | k + 1, x0, x1, x2, x3, x18, x19, x20, x21 => syF k x0 x1 x2 x3 x18 x19 x20 x21 (wrap64 (x19 - 1))
def syF : Nat → List α → Int → Int → Int → Int → Int → Int → Int → Int → Option (List α)
  | 0, _, _, _, _, _, _, _, _, _ => none
  | k + 1, x0, x1, x2, x3, x18, x19, x20, x21, x22 => if x20 < x21 then (if 0 ≤ wrap64 (x22 - half x20 x21) then (if wrap64 (x22 - half x20 x21) < (x0.length : Int) then (if 0 ≤ half x20 x21 then (if half x20 x21 < (x0.length : Int) then ((cmp k (rd z x0 (wrap64 (x22 - half x20 x21))) (rd z x0 (half x20 x21))).bind fun t => (if t < 0 then syF k x0 x1 x2 x3 x18 x19 x20 (half x20 x21) x22 else syF k x0 x1 x2 x3 x18 x19 (wrap64 (half x20 x21 + 1)) x21 x22)) else none) else none) else none) else none) else (if x20 < x2 then syG k x0 x1 x2 x3 x18 x20 (wrap64 (x19 - x20)) (decide (x2 < wrap64 (x19 - x20))) else syG k x0 x1 x2 x3 x18 x20 (wrap64 (x19 - x20)) false)
def syG : Nat → List α → Int → Int → Int → Int → Int → Int → Bool → Option (List α)
  | 0, _, _, _, _, _, _, _, _ => none
  | k + 1, x0, x1, x2, x3, x18, x20, x24, x185 => if x185 = true then ((rot z k x0 x2 (wrap64 (x2 - x20)) (wrap64 (x24 - x2))).bind fun t => syH k t x1 x3 x18 x20 x24) else syH k x0 x1 x3 x18 x20 x24
def syH : Nat → List α → Int → Int → Int → Int → Int → Option (List α)
  | 0, _, _, _, _, _, _ => none
  | k + 1, x0, x1, x3, x18, x20, x24 => if x1 < x20 then syI k x0 x1 x3 x18 x20 x24 (decide (x20 < x18)) else syI k x0 x1 x3 x18 x20 x24 false
def syI : Nat → List α → Int → Int → Int → Int → Int → Bool → Option (List α)
  | 0, _, _, _, _, _, _, _ => none
  | k + 1, x0, x1, x3, x18, x20, x24, x199 => if x199 = true then ((sym k x0 x1 x20 x18).bind fun t => (if x18 < x24 then (if x24 < x3 then ((sym k t x18 x24 x3).bind fun t' => some t') else some t) else some t)) else (if x18 < x24 then (if x24 < x3 then ((sym k x0 x18 x24 x3).bind fun t => some t) else some x0) else some x0)
def sym : Nat → List α → Int → Int → Int → Option (List α)
  | 0, _, _, _, _ => none
  | k + 1, l0, a1, a2, a3 => if wrap64 (a2 - a1) = 1 then syA k l0 a1 a2 a3 else (if wrap64 (a3 - a2) = 1 then syC k l0 a2 a1 a2 else (if a2 > half a1 a3 then syE k l0 a1 a2 a3 (half a1 a3) (wrap64 (half a1 a3 + a2)) (wrap64 (wrap64 (half a1 a3 + a2) - a3)) (half a1 a3) else syE k l0 a1 a2 a3 (half a1 a3) (wrap64 (half a1 a3 + a2)) a1 a2))
end
mutual
def stA : Nat → List α → Int → Int → Int → Int → Option (List α)
  | 0, _, _, _, _, _ => none
  | k + 1, x0, x1, x6, x7, x8 => if x8 ≤ x1 then ((insA z cmp k x0 x7 x8 (wrap64 (x7 + 1))).bind fun t => stA k t x1 x6 x8 (wrap64 (x8 + x6))) else ((insA z cmp k x0 x7 x1 (wrap64 (x7 + 1))).bind fun t => stB k t x1 x6)
def stB : Nat → List α → Int → Int → Option (List α)
  | 0, _, _, _ => none
  | k + 1, x0, x1, x6 => if x6 < x1 then stC k x0 x1 x6 0 (wrap64 (2 * x6)) else some x0
def stC : Nat → List α → Int → Int → Int → Int → Option (List α)
  | 0, _, _, _, _, _ => none
  | k + 1, x0, x1, x6, x7, x8 => if x8 ≤ x1 then ((sym z cmp k x0 x7 (wrap64 (x7 + x6)) x8).bind fun t => stC k t x1 x6 x8 (wrap64 (x8 + wrap64 (2 * x6)))) else (if wrap64 (x7 + x6) < x1 then ((sym z cmp k x0 x7 (wrap64 (x7 + x6)) x1).bind fun t => stB k t x1 (wrap64 (x6 * 2))) else stB k x0 x1 (wrap64 (x6 * 2)))
end
end
end Go.Proofs.YtbcocpaeehgmnaaDoorW.Sort

namespace Go.Proofs.YtbcocpaeehgmnaaDoorW.Sort
open Go.RowKit Go.Proofs.YtbcocpaeehgmnaaDoorW.PrintWords

section
variable {α : Type} {z : α}
theorem rd_at {p q : List α} {x : α} {i : Int} (h : i = (p.length : Int)) : rd z (p ++ x :: q) i = x := by subst h; simp [rd]
theorem set_at {p q : List α} {x y : α} {n : Nat} (h : n = p.length) : (p ++ x :: q).set n y = p ++ y :: q := by subst h; simp
theorem rd_mem {L : List α} {i : Int} (h0 : 0 ≤ i) (h1 : i < (L.length : Int)) : rd z L i ∈ L := by
  unfold rd
  have h : i.toNat < L.length := by omega
  rw [List.getD_eq_getElem?_getD, List.getElem?_eq_getElem h]
  exact List.getElem_mem h
theorem wrap_small {x : Int} (h0 : -4611686018427387904 ≤ x) (h1 : x ≤ 4611686018427387904) : wrap64 x = x := by unfold wrap64; omega
theorem half_eq {x y : Int} (h0 : 0 ≤ x) (h1 : 0 ≤ y) (hx : x ≤ 100000000000000) (hy : y ≤ 100000000000000) : half x y = (x + y) / 2 := by
  unfold half
  rw [wrap_small (x := x + y) (by omega) (by omega), IntKind.wrap_u64]
  have : (x + y) % 18446744073709551616 = x + y := by omega
  rw [this]
  exact wrap_small (by omega) (by omega)
end

section
variable {α : Type} {lt : α → α → Bool} {z : α} {cmp : Nat → α → α → Option Int} {P : α → Prop}

/-- The comparison tells the order. -/
def Tells (lt : α → α → Bool) (cmp : Nat → α → α → Option Int) (P : α → Prop) : Prop := ∀ x y, P x → P y → ∃ t, Ev (fun k => cmp k x y) t ∧ (t < 0 ↔ lt x y = true)

theorem insA_end {L : List α} {a b i : Int} (h : ¬ i < b) : Ev (fun k => insA z cmp k L a b i) L := by
  refine Ev.step (f := fun _ => some L) (fun k => ?_) (Ev.now L)
  simp only [insA]
  rw [if_neg h]
theorem insA_go {L : List α} {a b i : Int} {r : List α} (h : i < b) (k : Ev (fun k => insB z cmp k L a b i i) r) : Ev (fun k => insA z cmp k L a b i) r := by
  refine Ev.step (f := fun k => insB z cmp k L a b i i) (fun k => ?_) k
  simp only [insA]
  rw [if_pos h]
theorem insB_end {L : List α} {a b i j : Int} {r : List α} (h : ¬ j > a) (k : Ev (fun k => insA z cmp k L a b (wrap64 (i + 1))) r) : Ev (fun k => insB z cmp k L a b i j) r := by
  refine Ev.step (f := fun k => insA z cmp k L a b (wrap64 (i + 1))) (fun k => ?_) k
  simp only [insB]
  rw [if_neg h]

/-- One round: the element at j is compared with the one ahead of it. -/
theorem insB_step {p q : List α} {y x : α} {a b i j t : Int} (hb : (p ++ y :: x :: q).length ≤ 100000000000000) (ha : a ≤ (p.length : Int)) (hj : j = (p.length : Int) + 1) (hc : Ev (fun k => cmp k x y) t) {r : List α}
    (h1 : t < 0 → Ev (fun k => insB z cmp k (p ++ x :: y :: q) a b i (p.length : Int)) r) (h2 : ¬ t < 0 → Ev (fun k => insA z cmp k (p ++ y :: x :: q) a b (wrap64 (i + 1))) r) :
    Ev (fun k => insB z cmp k (p ++ y :: x :: q) a b i j) r := by
  have hl : (p ++ y :: x :: q).length = p.length + (q.length + 2) := by simp
  rw [hl] at hb
  have hw : wrap64 (j - 1) = (p.length : Int) := by rw [wrap_small (by omega) (by omega)]; omega
  have e1 : rd z (p ++ y :: x :: q) j = x := by
    have := rd_at (z := z) (p := p ++ [y]) (q := q) (x := x) (i := j) (by simp; omega)
    simpa using this
  have e2 : rd z (p ++ y :: x :: q) (p.length : Int) = y := rd_at rfl
  refine Ev.step (f := fun k => (cmp k x y).bind fun t => if t < 0 then insB z cmp k (p ++ x :: y :: q) a b i (p.length : Int) else insA z cmp k (p ++ y :: x :: q) a b (wrap64 (i + 1))) (fun k => ?_) (Ev.bind hc ?_)
  · simp only [insB]
    rw [if_pos (by omega : j > a), if_pos (by omega : 0 ≤ j), if_pos (by rw [hl]; omega), hw, if_pos (by omega : 0 ≤ (p.length : Int)), if_pos (by rw [hl]; omega), e1, e2]
    have es : ((p ++ y :: x :: q).set j.toNat y).set (p.length : Int).toNat x = p ++ x :: y :: q := by
      have s1 : (p ++ y :: x :: q).set j.toNat y = p ++ y :: y :: q := by
        have := set_at (p := p ++ [y]) (q := q) (x := x) (y := y) (n := j.toNat) (by simp; omega)
        simpa using this
      rw [s1]
      exact set_at (by omega)
    rw [es]
  · by_cases ht : t < 0
    · refine Ev.congr (fun k => ?_) (h1 ht)
      rw [if_pos ht]
    · refine Ev.congr (fun k => ?_) (h2 ht)
      rw [if_neg ht]

variable (ho : Ord_ lt) (hc : Tells lt cmp P)
include ho hc

theorem insB_run : ∀ (n : Nat) (d1 d2 : List α) (x : α) (pre post : List α) (a b i j : Int), d1.length = n → (pre ++ (d1 ++ (x :: (d2 ++ post)))).length ≤ 100000000000000 →
    (∀ y, y ∈ d1 → P y) → P x → a = (pre.length : Int) → j = (pre.length : Int) + (d1.length : Int) → Sorted lt (d1 ++ d2) → (∀ y, y ∈ d2 → lt x y = true) →
    ∃ S, Sorted lt S ∧ Stab lt (d1 ++ (x :: d2)) S ∧ ∀ r, Ev (fun k => insA z cmp k (pre ++ (S ++ post)) a b (wrap64 (i + 1))) r → Ev (fun k => insB z cmp k (pre ++ (d1 ++ (x :: (d2 ++ post)))) a b i j) r := by
  intro n
  induction n with
  | zero =>
    intro d1 d2 x pre post a b i j hn hb hp hx ha hj hs hl
    obtain rfl : d1 = [] := List.length_eq_zero_iff.1 hn
    refine ⟨x :: d2, Sorted.cons hs (fun y hy => ho.asymm (hl y hy)), Stab.refl _, fun r hr => insB_end (by simp at hj; omega) ?_⟩
    simpa using hr
  | succ n ih =>
    intro d1 d2 x pre post a b i j hn hb hp hx ha hj hs hl
    rcases List.eq_nil_or_concat d1 with h0 | ⟨d, y, h0⟩
    · subst h0; simp at hn
    · rw [List.concat_eq_append] at h0
      subst h0
      have hdl : d.length = n := by simpa using hn
      obtain ⟨t, ht, htl⟩ := hc x y hx (hp y (by simp))
      have eL : pre ++ (d ++ [y] ++ (x :: (d2 ++ post))) = (pre ++ d) ++ y :: x :: (d2 ++ post) := by simp
      have eL2 : (pre ++ d) ++ x :: y :: (d2 ++ post) = pre ++ (d ++ (x :: ((y :: d2) ++ post))) := by simp
      have hj' : j = ((pre ++ d).length : Int) + 1 := by rw [hj]; simp; omega
      by_cases hlt : lt x y = true
      · have hs' : Sorted lt (d ++ (y :: d2)) := by simpa using hs
        obtain ⟨S, hS1, hS2, hS3⟩ := ih d (y :: d2) x pre post a b i ((pre.length : Int) + (d.length : Int)) hdl (by rw [eL] at hb; rw [← eL2]; simpa using hb) (fun y' hy' => hp y' (by simp [hy'])) hx ha rfl hs'
          (fun y' hy' => by
            rcases List.mem_cons.1 hy' with rfl | hy'
            · exact hlt
            · exact hl y' hy')
        refine ⟨S, hS1, Stab.trans ?_ hS2, fun r hr => ?_⟩
        · have := Stab.app (Stab.refl (lt := lt) d) (Stab.app (Stab.rot (lt := lt) ho (U := [y]) (V := [x]) (by simpa using hlt)) (Stab.refl (lt := lt) d2))
          simpa using this
        · rw [eL]
          refine insB_step (by rw [← eL]; exact hb) (by simp; omega) hj' ht (fun _ => ?_) (fun hn' => absurd (htl.2 hlt) hn')
          rw [eL2, List.length_append, Int.natCast_add]
          exact hS3 r hr
      · have hlt' : lt x y = false := by simpa using hlt
        refine ⟨d ++ [y] ++ (x :: d2), ?_, Stab.refl _, fun r hr => ?_⟩
        · refine Sorted.app hs.left (Sorted.cons hs.right (fun w hw => ho.asymm (hl w hw))) (fun w hw v hv => ?_)
          have hyw : lt y w = false := by
            rcases List.mem_append.1 hw with hw | hw
            · exact hs.left.between hw (by simp)
            · obtain rfl : w = y := by simpa using hw
              exact irr ho _
          rcases List.mem_cons.1 hv with rfl | hv
          · exact ho.ntr hlt' hyw
          · exact hs.between hw hv
        · rw [eL]
          refine insB_step (by rw [← eL]; exact hb) (by simp; omega) hj' ht (fun h => absurd (htl.1 h) hlt) (fun _ => ?_)
          simpa using hr

theorem insA_run : ∀ (rest done pre post : List α) (a b i : Int), (pre ++ (done ++ (rest ++ post))).length ≤ 100000000000000 → (∀ y, y ∈ done ++ rest → P y) →
    a = (pre.length : Int) → i = (pre.length : Int) + (done.length : Int) → b = (pre.length : Int) + (done.length : Int) + (rest.length : Int) → Sorted lt done →
    ∃ S, Sorted lt S ∧ Stab lt (done ++ rest) S ∧ Ev (fun k => insA z cmp k (pre ++ (done ++ (rest ++ post))) a b i) (pre ++ (S ++ post)) := by
  intro rest
  induction rest with
  | nil =>
    intro done pre post a b i hb hp ha hi hbb hs
    refine ⟨done, hs, by simpa using Stab.refl _, ?_⟩
    simp only [List.nil_append]
    exact insA_end (by simp at hbb; omega)
  | cons x rest ih =>
    intro done pre post a b i hb hp ha hi hbb hs
    simp only [List.length_append, List.length_cons] at hb hbb
    obtain ⟨S, hS1, hS2, hS3⟩ := insB_run (z := z) ho hc done.length done [] x pre (rest ++ post) a b i i rfl (by simp; omega) (fun y hy => hp y (by simp [hy])) (hp x (by simp)) ha hi (by simpa using hs) (fun y hy => by cases hy)
    have hSl : S.length = done.length + 1 := by have := hS2.len; simpa using this
    obtain ⟨S', hT1, hT2, hT3⟩ := ih S pre post a b (wrap64 (i + 1)) (by simp; omega)
      (fun y hy => by
        rcases List.mem_append.1 hy with hy | hy
        · have : y ∈ done ++ [x] := hS2.mem.1 hy
          exact hp y (by rcases List.mem_append.1 this with h | h <;> simp_all)
        · exact hp y (by simp [hy]))
      ha (by rw [wrap_small (by omega) (by omega)]; omega) (by omega) hS1
    refine ⟨S', hT1, Stab.trans ?_ hT2, insA_go (by omega) ?_⟩
    · have := Stab.app hS2 (Stab.refl (lt := lt) rest)
      simpa using this
    · have := hS3 _ hT3
      simpa using this

/-- The block between two others, sorted by insertion. -/
theorem ins_run (B pre post : List α) (a b : Int) (hb : (pre ++ (B ++ post)).length ≤ 100000000000000) (hp : ∀ y, y ∈ B → P y) (ha : a = (pre.length : Int)) (hbb : b = (pre.length : Int) + (B.length : Int)) :
    ∃ S, Sorted lt S ∧ Stab lt B S ∧ Ev (fun k => insA z cmp k (pre ++ (B ++ post)) a b (wrap64 (a + 1))) (pre ++ (S ++ post)) := by
  simp only [List.length_append] at hb
  have hw : wrap64 (a + 1) = a + 1 := wrap_small (by omega) (by omega)
  rw [hw]
  cases B with
  | nil => exact ⟨[], Sorted.nil, Stab.refl _, insA_end (by simp at hbb; omega)⟩
  | cons x B =>
    obtain ⟨S, h1, h2, h3⟩ := insA_run (z := z) ho hc B [x] pre post a b (a + 1) (by simp at hb ⊢; omega) (by simpa using hp) ha (by simp; omega) (by simp at hbb ⊢; omega) (Sorted.one x)
    exact ⟨S, h1, by simpa using h2, by simpa using h3⟩
end
end Go.Proofs.YtbcocpaeehgmnaaDoorW.Sort

namespace Go.Proofs.YtbcocpaeehgmnaaDoorW.Sort
open Go.RowKit Go.Proofs.YtbcocpaeehgmnaaDoorW.PrintWords

section
variable {α : Type} {z : α}

theorem swp_run : ∀ (A2 B2 A1 B1 p m q : List α) (x1 x2 x3 i : Int), A2.length = B2.length → A1.length = B1.length → (p ++ (B1 ++ (A2 ++ (m ++ (A1 ++ (B2 ++ q)))))).length ≤ 100000000000000 →
    x1 = (p.length : Int) → x2 = (p.length : Int) + (B1.length : Int) + (A2.length : Int) + (m.length : Int) → i = (B1.length : Int) → x3 = (B1.length : Int) + (A2.length : Int) →
    Ev (fun k => swp z k (p ++ (B1 ++ (A2 ++ (m ++ (A1 ++ (B2 ++ q)))))) x1 x2 x3 i) (p ++ (B1 ++ (B2 ++ (m ++ (A1 ++ (A2 ++ q)))))) := by
  intro A2
  induction A2 with
  | nil =>
    intro B2 A1 B1 p m q x1 x2 x3 i h1 h2 hb e1 e2 e4 e3
    obtain rfl : B2 = [] := List.length_eq_zero_iff.1 (by simpa using h1.symm)
    refine Ev.step (f := fun _ => some _) (fun k => ?_) (Ev.now _)
    simp only [swp]
    rw [if_neg (by simp at e3; omega)]
  | cons x A2 ih =>
    intro B2 A1 B1 p m q x1 x2 x3 i h1 h2 hb e1 e2 e4 e3
    cases B2 with
    | nil => simp at h1
    | cons y B2 =>
      have h1' : A2.length = B2.length := by simpa using h1
      have hr := ih B2 (A1 ++ [x]) (B1 ++ [y]) p m q x1 x2 x3 (i + 1) h1' (by simp; omega) (by simp only [List.length_append, List.length_cons, List.length_nil] at hb ⊢; omega) e1 (by simp only [List.length_append, List.length_cons, List.length_nil] at e2 ⊢; omega) (by simp only [List.length_append, List.length_cons, List.length_nil]; omega) (by simp only [List.length_append, List.length_cons, List.length_nil] at e3 ⊢; omega)
      have hl : (p ++ (B1 ++ ((x :: A2) ++ (m ++ (A1 ++ ((y :: B2) ++ q)))))).length = p.length + B1.length + A2.length + m.length + A1.length + B2.length + q.length + 2 := by simp; omega
      rw [hl] at hb
      simp only [List.length_cons] at e2 e3
      have w1 : wrap64 (x1 + i) = ((p ++ B1).length : Int) := by rw [wrap_small (by omega) (by omega)]; simp; omega
      have w2 : wrap64 (x2 + i) = ((p ++ (B1 ++ ((x :: A2) ++ (m ++ A1)))).length : Int) := by rw [wrap_small (by omega) (by omega)]; simp; omega
      have w3 : wrap64 (i + 1) = i + 1 := wrap_small (by omega) (by omega)
      have g1 : rd z (p ++ (B1 ++ ((x :: A2) ++ (m ++ (A1 ++ ((y :: B2) ++ q)))))) ((p ++ B1).length : Int) = x := by
        have := rd_at (z := z) (p := p ++ B1) (q := A2 ++ (m ++ (A1 ++ ((y :: B2) ++ q)))) (x := x) rfl
        simpa using this
      have g2 : rd z (p ++ (B1 ++ ((x :: A2) ++ (m ++ (A1 ++ ((y :: B2) ++ q)))))) ((p ++ (B1 ++ ((x :: A2) ++ (m ++ A1)))).length : Int) = y := by
        have := rd_at (z := z) (p := p ++ (B1 ++ ((x :: A2) ++ (m ++ A1)))) (q := B2 ++ q) (x := y) rfl
        simpa using this
      have s1 : (p ++ (B1 ++ ((x :: A2) ++ (m ++ (A1 ++ ((y :: B2) ++ q)))))).set (((p ++ B1).length : Nat) : Int).toNat y = p ++ (B1 ++ ((y :: A2) ++ (m ++ (A1 ++ ((y :: B2) ++ q))))) := by
        rw [Int.toNat_natCast]
        simp
      have s2 : (p ++ (B1 ++ ((y :: A2) ++ (m ++ (A1 ++ ((y :: B2) ++ q)))))).set (((p ++ (B1 ++ ((x :: A2) ++ (m ++ A1)))).length : Nat) : Int).toNat x = p ++ (B1 ++ ((y :: A2) ++ (m ++ (A1 ++ ((x :: B2) ++ q))))) := by
        rw [Int.toNat_natCast]
        simp
      refine Ev.step (f := fun k => swp z k (p ++ ((B1 ++ [y]) ++ (A2 ++ (m ++ ((A1 ++ [x]) ++ (B2 ++ q)))))) x1 x2 x3 (i + 1)) (fun k => ?_) (by simpa using hr)
      simp only [swp]
      rw [if_pos (by omega), w1, w2, w3, hl, if_pos (by omega), if_pos (by simp; omega), if_pos (by omega), if_pos (by simp; omega), g1, g2, s1, s2]
      simp

/-- Two blocks of one length change places. -/
theorem swp_all (A B p m q : List α) (x1 x2 x3 : Int) (h : A.length = B.length) (hb : (p ++ (A ++ (m ++ (B ++ q)))).length ≤ 100000000000000) (e1 : x1 = (p.length : Int)) (e2 : x2 = (p.length : Int) + (A.length : Int) + (m.length : Int)) (e3 : x3 = (A.length : Int)) :
    Ev (fun k => swp z k (p ++ (A ++ (m ++ (B ++ q)))) x1 x2 x3 0) (p ++ (B ++ (m ++ (A ++ q)))) := by
  have := swp_run (z := z) A B [] [] p m q x1 x2 x3 0 h rfl (by simpa using hb) e1 (by simpa using e2) rfl (by simpa using e3)
  simpa using this

/-- Two blocks side by side change places. -/
theorem rot_run : ∀ (n : Nat) (U V p q : List α) (x2 i j : Int), U.length + V.length ≤ n → U ≠ [] → V ≠ [] → (p ++ (U ++ (V ++ q))).length ≤ 100000000000000 → x2 = (p.length : Int) + (U.length : Int) → i = (U.length : Int) → j = (V.length : Int) →
    Ev (fun k => rot z k (p ++ (U ++ (V ++ q))) x2 i j) (p ++ (V ++ (U ++ q))) := by
  intro n
  induction n with
  | zero =>
    intro U V p q x2 i j hn hu
    exact absurd (List.length_eq_zero_iff.1 (by omega)) hu
  | succ n ih =>
    intro U V p q x2 i j hn hu hv hb e2 ei ej
    have hu0 : 0 < U.length := List.length_pos_iff.2 hu
    have hv0 : 0 < V.length := List.length_pos_iff.2 hv
    simp only [List.length_append] at hb
    have w1 : wrap64 (x2 - i) = (p.length : Int) := by rw [wrap_small (by omega) (by omega)]; omega
    by_cases c1 : i = j
    · have hs := swp_all (z := z) U V p [] q (p.length : Int) x2 i (by omega) (by simp; omega) rfl (by simp; omega) ei
      refine Ev.step (f := fun k => (swp z k (p ++ (U ++ (V ++ q))) (p.length : Int) x2 i 0).bind fun t => some t) (fun k => ?_) (Ev.bind (f := fun _ t => some t) (by simpa using hs) (Ev.now _))
      simp only [rot]
      rw [if_pos c1, w1]
    · by_cases c2 : i > j
      · have hU : U = U.take V.length ++ U.drop V.length := (List.take_append_drop _ _).symm
        obtain ⟨U1, hU1⟩ : ∃ x, x = U.take V.length := ⟨_, rfl⟩
        obtain ⟨U2, hU2⟩ : ∃ x, x = U.drop V.length := ⟨_, rfl⟩
        rw [← hU1, ← hU2] at hU
        have l1 : U1.length = V.length := by rw [hU1, List.length_take]; omega
        have l2 : U2.length = U.length - V.length := by rw [hU2, List.length_drop]
        have hs := swp_all (z := z) U1 V p U2 q (p.length : Int) x2 j l1 (by simp; omega) rfl (by omega) (by omega)
        have hr := ih U2 U1 (p ++ V) q x2 (i - j) j (by omega) (fun h => by rw [h] at l2; simp at l2; omega) (fun h => by rw [h] at l1; simp at l1; omega) (by simp; omega) (by simp; omega) (by omega) (by omega)
        refine Ev.step (f := fun k => (swp z k (p ++ (U ++ (V ++ q))) (p.length : Int) x2 j 0).bind fun t => rot z k t x2 (i - j) j) (fun k => ?_) (Ev.bind (f := fun k t => rot z k t x2 (i - j) j) (a := p ++ (V ++ (U2 ++ (U1 ++ q)))) ?_ ?_)
        · have w2 : wrap64 (i - j) = i - j := wrap_small (by omega) (by omega)
          simp only [rot]
          rw [if_neg c1, if_pos c2, w1, w2]
        · rw [hU]
          simpa using hs
        · rw [hU]
          simpa using hr
      · have hV : V = V.take (V.length - U.length) ++ V.drop (V.length - U.length) := (List.take_append_drop _ _).symm
        obtain ⟨V1, hV1⟩ : ∃ x, x = V.take (V.length - U.length) := ⟨_, rfl⟩
        obtain ⟨V2, hV2⟩ : ∃ x, x = V.drop (V.length - U.length) := ⟨_, rfl⟩
        rw [← hV1, ← hV2] at hV
        have l1 : V1.length = V.length - U.length := by rw [hV1, List.length_take]; omega
        have l2 : V2.length = U.length := by rw [hV2, List.length_drop]; omega
        have hs := swp_all (z := z) U V2 p V1 q (p.length : Int) (x2 + j - i) i (by omega) (by simp; omega) rfl (by omega) (by omega)
        have hr := ih V2 V1 p (U ++ q) x2 i (j - i) (by omega) (fun h => by rw [h] at l2; simp at l2; omega) (fun h => by rw [h] at l1; simp at l1; omega) (by simp; omega) (by omega) (by omega) (by omega)
        refine Ev.step (f := fun k => (swp z k (p ++ (U ++ (V ++ q))) (p.length : Int) (x2 + j - i) i 0).bind fun t => rot z k t x2 i (j - i)) (fun k => ?_) (Ev.bind (f := fun k t => rot z k t x2 i (j - i)) (a := p ++ (V2 ++ (V1 ++ (U ++ q)))) ?_ ?_)
        · have w2 : wrap64 (j - i) = j - i := wrap_small (by omega) (by omega)
          have w3 : wrap64 (wrap64 (x2 + j) - i) = x2 + j - i := by rw [wrap_small (x := x2 + j) (by omega) (by omega), wrap_small (by omega) (by omega)]
          simp only [rot]
          rw [if_neg c1, if_neg c2, w1, w2, w3]
        · rw [hV]
          simpa using hs
        · rw [hV]
          simpa using hr
end
end Go.Proofs.YtbcocpaeehgmnaaDoorW.Sort

namespace Go.Proofs.YtbcocpaeehgmnaaDoorW.Sort
open Go.RowKit Go.Proofs.YtbcocpaeehgmnaaDoorW.PrintWords

section
variable {α : Type} {lt : α → α → Bool} {z : α} {cmp : Nat → α → α → Option Int} {P : α → Prop}

/-- The first element moves behind C. -/
theorem syB_run : ∀ (C : List α) (p q : List α) (x : α) (e i : Int), (p ++ (x :: (C ++ q))).length ≤ 100000000000000 → i = (p.length : Int) → e = (p.length : Int) + (C.length : Int) + 1 →
    Ev (fun k => syB z cmp k (p ++ (x :: (C ++ q))) e i) (p ++ (C ++ (x :: q))) := by
  intro C
  induction C with
  | nil =>
    intro p q x e i hb hi he
    simp only [List.length_append, List.length_cons, List.length_nil] at hb he
    refine Ev.step (f := fun _ => some _) (fun k => ?_) (Ev.now _)
    simp only [syB]
    rw [wrap_small (by omega) (by omega), if_neg (by omega)]
    simp
  | cons y C ih =>
    intro p q x e i hb hi he
    have hr := ih (p ++ [y]) q x e (i + 1) (by simp only [List.length_append, List.length_cons, List.length_nil] at hb ⊢; omega) (by simp; omega) (by simp at he ⊢; omega)
    have hl : (p ++ (x :: ((y :: C) ++ q))).length = p.length + C.length + q.length + 2 := by simp; omega
    rw [hl] at hb
    simp only [List.length_cons] at he
    have w1 : wrap64 (e - 1) = e - 1 := wrap_small (by omega) (by omega)
    have w2 : wrap64 (i + 1) = i + 1 := wrap_small (by omega) (by omega)
    have g1 : rd z (p ++ (x :: ((y :: C) ++ q))) (i + 1) = y := by
      have := rd_at (z := z) (p := p ++ [x]) (q := C ++ q) (x := y) (i := i + 1) (by simp; omega)
      simpa using this
    have g2 : rd z (p ++ (x :: ((y :: C) ++ q))) i = x := rd_at hi
    have s1 : (p ++ (x :: ((y :: C) ++ q))).set i.toNat y = p ++ (y :: ((y :: C) ++ q)) := set_at (by omega)
    have s2 : (p ++ (y :: ((y :: C) ++ q))).set (i + 1).toNat x = p ++ (y :: ((x :: C) ++ q)) := by
      have := set_at (p := p ++ [y]) (q := C ++ q) (x := y) (y := x) (n := (i + 1).toNat) (by simp; omega)
      simpa using this
    refine Ev.step (f := fun k => syB z cmp k ((p ++ [y]) ++ (x :: (C ++ q))) e (i + 1)) (fun k => ?_) (by simpa using hr)
    simp only [syB]
    rw [w1, w2, hl, if_pos (by omega), if_pos (by omega), if_pos (by omega), if_pos (by omega), if_pos (by omega), g1, g2, s1, s2]
    simp

/-- The last element moves ahead of E. -/
theorem syD_run : ∀ (n : Nat) (E p q : List α) (x : α) (e i : Int), E.length = n → (p ++ (E ++ (x :: q))).length ≤ 100000000000000 → e = (p.length : Int) → i = (p.length : Int) + (E.length : Int) →
    Ev (fun k => syD z cmp k (p ++ (E ++ (x :: q))) e i) (p ++ (x :: (E ++ q))) := by
  intro n
  induction n with
  | zero =>
    intro E p q x e i hn hb he hi
    obtain rfl : E = [] := List.length_eq_zero_iff.1 hn
    refine Ev.step (f := fun _ => some _) (fun k => ?_) (Ev.now _)
    simp only [syD]
    rw [if_neg (by simp at hi; omega)]
    simp
  | succ n ih =>
    intro E p q x e i hn hb he hi
    rcases List.eq_nil_or_concat E with h0 | ⟨D, y, h0⟩
    · subst h0; simp at hn
    · rw [List.concat_eq_append] at h0
      subst h0
      have hr := ih D p (y :: q) x e (i - 1) (by simpa using hn) (by simp only [List.length_append, List.length_cons, List.length_nil] at hb ⊢; omega) he (by simp at hi; omega)
      have hl : (p ++ (D ++ [y] ++ (x :: q))).length = p.length + D.length + q.length + 2 := by simp; omega
      rw [hl] at hb
      simp only [List.length_append, List.length_cons, List.length_nil] at hi
      have w1 : wrap64 (i - 1) = i - 1 := wrap_small (by omega) (by omega)
      have g1 : rd z (p ++ (D ++ [y] ++ (x :: q))) (i - 1) = y := by
        have := rd_at (z := z) (p := p ++ D) (q := x :: q) (x := y) (i := i - 1) (by simp; omega)
        simpa using this
      have g2 : rd z (p ++ (D ++ [y] ++ (x :: q))) i = x := by
        have := rd_at (z := z) (p := p ++ (D ++ [y])) (q := q) (x := x) (i := i) (by simp; omega)
        simpa using this
      have s1 : (p ++ (D ++ [y] ++ (x :: q))).set i.toNat y = p ++ (D ++ [y] ++ (y :: q)) := by
        have := set_at (p := p ++ (D ++ [y])) (q := q) (x := x) (y := y) (n := i.toNat) (by simp; omega)
        simpa using this
      have s2 : (p ++ (D ++ [y] ++ (y :: q))).set (i - 1).toNat x = p ++ (D ++ (x :: (y :: q))) := by
        have := set_at (p := p ++ D) (q := y :: q) (x := y) (y := x) (n := (i - 1).toNat) (by simp; omega)
        simpa using this
      refine Ev.step (f := fun k => syD z cmp k (p ++ (D ++ (x :: (y :: q)))) e (i - 1)) (fun k => ?_) (by simpa using hr)
      simp only [syD]
      rw [w1, hl, if_pos (by omega), if_pos (by omega), if_pos (by omega), if_pos (by omega), if_pos (by omega), g1, g2, s1, s2]

theorem splitAt_ (D : List α) (h : 0 < D.length) : ∃ D1 e D2, D = D1 ++ (e :: D2) ∧ D1.length = D.length / 2 := by
  have hd : D.drop (D.length / 2) ≠ [] := fun h' => by
    have := congrArg List.length h'
    rw [List.length_drop, List.length_nil] at this
    omega
  obtain ⟨e, D2, h2⟩ := List.exists_cons_of_ne_nil hd
  exact ⟨D.take (D.length / 2), e, D2, by rw [← h2, List.take_append_drop], by rw [List.length_take]; omega⟩

variable (ho : Ord_ lt) (hc : Tells lt cmp P)
include ho hc

/-- The first element's place among those of a sorted block behind it. -/
theorem syA_run : ∀ (n : Nat) (C D E p q : List α) (x : α) (a i j : Int), D.length ≤ n → (p ++ (x :: (C ++ (D ++ (E ++ q))))).length ≤ 100000000000000 → P x → (∀ y, y ∈ D → P y) → a = (p.length : Int) → i = (p.length : Int) + 1 + (C.length : Int) → j = (p.length : Int) + 1 + (C.length : Int) + (D.length : Int) →
    Sorted lt (C ++ (D ++ E)) → (∀ y, y ∈ C → lt y x = true) → (∀ y, y ∈ E → lt y x = false) →
    ∃ S, Sorted lt S ∧ Stab lt (x :: (C ++ (D ++ E))) S ∧ Ev (fun k => syA z cmp k (p ++ (x :: (C ++ (D ++ (E ++ q))))) a i j) (p ++ (S ++ q)) := by
  intro n
  induction n with
  | zero =>
    intro C D E p q x a i j hn hb hx hp ha hi hj hs h1 h2
    obtain rfl : D = [] := List.length_eq_zero_iff.1 (by omega)
    simp only [List.nil_append] at hb hs ⊢
    refine ⟨C ++ (x :: E), Sorted.app hs.left (Sorted.cons hs.right h2) (fun u hu v hv => ?_), ?_, ?_⟩
    · rcases List.mem_cons.1 hv with rfl | hv
      · exact ho.asymm (h1 u hu)
      · exact hs.between hu hv
    · have := Stab.app (Stab.rot (lt := lt) ho (U := [x]) (V := C) (by simpa using h1)) (Stab.refl (lt := lt) E)
      simpa using this
    · have hr := syB_run (z := z) (cmp := cmp) C p (E ++ q) x i a (by simpa using hb) ha (by omega)
      refine Ev.step (f := fun k => syB z cmp k (p ++ (x :: (C ++ (E ++ q)))) i a) (fun k => ?_) (by simpa using hr)
      simp only [syA]
      rw [if_neg (by simp at hj; omega)]
  | succ n ih =>
    intro C D E p q x a i j hn hb hx hp ha hi hj hs h1 h2
    by_cases h0 : D.length = 0
    · obtain rfl : D = [] := List.length_eq_zero_iff.1 h0
      exact ih C [] E p q x a i j (Nat.zero_le _) hb hx hp ha hi hj hs h1 h2
    obtain ⟨D1, e, D2, hD, hD1⟩ := splitAt_ D (by omega)
    have hDl : D.length = D1.length + D2.length + 1 := by rw [hD]; simp; omega
    have hl : (p ++ (x :: (C ++ (D ++ (E ++ q))))).length = p.length + C.length + D.length + E.length + q.length + 1 := by simp; omega
    have hb2 := hb
    rw [hl] at hb
    have hh : half i j = i + (D1.length : Int) := by rw [half_eq (by omega) (by omega) (by omega) (by omega)]; omega
    have g1 : rd z (p ++ (x :: (C ++ (D ++ (E ++ q))))) (i + (D1.length : Int)) = e := by
      have := rd_at (z := z) (p := p ++ (x :: (C ++ D1))) (q := D2 ++ (E ++ q)) (x := e) (i := i + (D1.length : Int)) (by simp; omega)
      rw [hD]
      simpa using this
    have g2 : rd z (p ++ (x :: (C ++ (D ++ (E ++ q))))) a = x := rd_at ha
    have hpe : P e := hp e (by rw [hD]; simp)
    obtain ⟨t, ht, htl⟩ := hc e x hpe hx
    have hs1 : Sorted lt (D1 ++ (e :: D2)) := by have := hs.right.left; rwa [hD] at this
    have step : ∀ r, (t < 0 → Ev (fun k => syA z cmp k (p ++ (x :: (C ++ (D ++ (E ++ q))))) a (i + (D1.length : Int) + 1) j) r) → (¬ t < 0 → Ev (fun k => syA z cmp k (p ++ (x :: (C ++ (D ++ (E ++ q))))) a i (i + (D1.length : Int))) r) → Ev (fun k => syA z cmp k (p ++ (x :: (C ++ (D ++ (E ++ q))))) a i j) r := by
      intro r k1 k2
      refine Ev.step (f := fun k => (cmp k e x).bind fun t => if t < 0 then syA z cmp k (p ++ (x :: (C ++ (D ++ (E ++ q))))) a (i + (D1.length : Int) + 1) j else syA z cmp k (p ++ (x :: (C ++ (D ++ (E ++ q))))) a i (i + (D1.length : Int))) (fun k => ?_) (Ev.bind ht ?_)
      · simp only [syA]
        rw [hl, hh, wrap_small (x := i + (D1.length : Int) + 1) (by omega) (by omega), if_pos (by omega), if_pos (by omega), if_pos (by omega), if_pos (by omega), if_pos (by omega), g1, g2]
      · by_cases hti : t < 0
        · exact Ev.congr (fun k => by rw [if_pos hti]) (k1 hti)
        · exact Ev.congr (fun k => by rw [if_neg hti]) (k2 hti)
    by_cases hlt : lt e x = true
    · obtain ⟨S, s1, s2, s3⟩ := ih (C ++ (D1 ++ [e])) D2 E p q x a (i + (D1.length : Int) + 1) j (by omega) (by rw [hD] at hb2; simpa using hb2) hx (fun y hy => hp y (by rw [hD]; simp [hy])) ha (by simp; omega) (by simp; omega) (by rw [hD] at hs; simpa using hs)
        (fun y hy => by
          rcases List.mem_append.1 hy with hy | hy
          · exact h1 y hy
          · rcases List.mem_append.1 hy with hy | hy
            · cases hyx : lt y x with
              | true => rfl
              | false => exact absurd hlt (by rw [ho.ntr (hs1.between hy (List.mem_cons_self)) hyx]; simp)
            · obtain rfl : y = e := by simpa using hy
              exact hlt)
        h2
      refine ⟨S, s1, by rw [hD]; simpa using s2, step _ (fun _ => ?_) (fun hn => absurd (htl.2 hlt) hn)⟩
      rw [hD]
      simpa using s3
    · have hlt' : lt e x = false := by simpa using hlt
      obtain ⟨S, s1, s2, s3⟩ := ih C D1 (e :: (D2 ++ E)) p q x a i (i + (D1.length : Int)) (by omega) (by rw [hD] at hb2; simpa using hb2) hx (fun y hy => hp y (by rw [hD]; simp [hy])) ha hi (by omega) (by rw [hD] at hs; simpa using hs) h1
        (fun y hy => by
          rcases List.mem_cons.1 hy with rfl | hy
          · exact hlt'
          · rcases List.mem_append.1 hy with hy | hy
            · exact ho.ntr (hs1.right.head hy) hlt'
            · exact h2 y hy)
      refine ⟨S, s1, by rw [hD]; simpa using s2, step _ (fun h => absurd (htl.1 h) hlt) (fun _ => ?_)⟩
      rw [hD]
      simpa using s3

/-- The last element's place among those of a sorted block ahead of it. -/
theorem syC_run : ∀ (n : Nat) (C D E p q : List α) (x : α) (m i j : Int), D.length ≤ n → (p ++ (C ++ (D ++ (E ++ (x :: q))))).length ≤ 100000000000000 → P x → (∀ y, y ∈ D → P y) → m = (p.length : Int) + (C.length : Int) + (D.length : Int) + (E.length : Int) → i = (p.length : Int) + (C.length : Int) → j = (p.length : Int) + (C.length : Int) + (D.length : Int) →
    Sorted lt (C ++ (D ++ E)) → (∀ y, y ∈ C → lt x y = false) → (∀ y, y ∈ E → lt x y = true) →
    ∃ S, Sorted lt S ∧ Stab lt (C ++ (D ++ (E ++ [x]))) S ∧ Ev (fun k => syC z cmp k (p ++ (C ++ (D ++ (E ++ (x :: q))))) m i j) (p ++ (S ++ q)) := by
  intro n
  induction n with
  | zero =>
    intro C D E p q x m i j hn hb hx hp hm hi hj hs h1 h2
    obtain rfl : D = [] := List.length_eq_zero_iff.1 (by omega)
    simp only [List.nil_append, List.length_nil] at hb hs hm ⊢
    refine ⟨C ++ (x :: E), Sorted.app hs.left (Sorted.cons hs.right (fun y hy => ho.asymm (h2 y hy))) (fun u hu v hv => ?_), ?_, ?_⟩
    · rcases List.mem_cons.1 hv with rfl | hv
      · exact h1 u hu
      · exact hs.between hu hv
    · exact Stab.app (Stab.refl (lt := lt) C) (Stab.rot (lt := lt) ho (U := E) (V := [x]) (fun u hu v hv => by rw [List.mem_singleton.1 hv]; exact h2 u hu))
    · have hr := syD_run (z := z) (cmp := cmp) E.length E (p ++ C) q x i m rfl (by simpa using hb) (by simp; omega) (by simp; omega)
      refine Ev.step (f := fun k => syD z cmp k (p ++ (C ++ (E ++ (x :: q)))) i m) (fun k => ?_) (by simpa using hr)
      simp only [syC]
      rw [if_neg (by simp at hj; omega)]
  | succ n ih =>
    intro C D E p q x m i j hn hb hx hp hm hi hj hs h1 h2
    by_cases h0 : D.length = 0
    · obtain rfl : D = [] := List.length_eq_zero_iff.1 h0
      exact ih C [] E p q x m i j (Nat.zero_le _) hb hx hp hm hi hj hs h1 h2
    obtain ⟨D1, e, D2, hD, hD1⟩ := splitAt_ D (by omega)
    have hDl : D.length = D1.length + D2.length + 1 := by rw [hD]; simp; omega
    have hl : (p ++ (C ++ (D ++ (E ++ (x :: q))))).length = p.length + C.length + D.length + E.length + q.length + 1 := by simp; omega
    have hb2 := hb
    rw [hl] at hb
    have hh : half i j = i + (D1.length : Int) := by rw [half_eq (by omega) (by omega) (by omega) (by omega)]; omega
    have g1 : rd z (p ++ (C ++ (D ++ (E ++ (x :: q))))) (i + (D1.length : Int)) = e := by
      have := rd_at (z := z) (p := p ++ (C ++ D1)) (q := D2 ++ (E ++ (x :: q))) (x := e) (i := i + (D1.length : Int)) (by simp; omega)
      rw [hD]
      simpa using this
    have g2 : rd z (p ++ (C ++ (D ++ (E ++ (x :: q))))) m = x := by
      have := rd_at (z := z) (p := p ++ (C ++ (D ++ E))) (q := q) (x := x) (i := m) (by simp; omega)
      simpa using this
    have hpe : P e := hp e (by rw [hD]; simp)
    obtain ⟨t, ht, htl⟩ := hc x e hx hpe
    have hs1 : Sorted lt (D1 ++ (e :: D2)) := by have := hs.right.left; rwa [hD] at this
    have step : ∀ r, (t < 0 → Ev (fun k => syC z cmp k (p ++ (C ++ (D ++ (E ++ (x :: q))))) m i (i + (D1.length : Int))) r) → (¬ t < 0 → Ev (fun k => syC z cmp k (p ++ (C ++ (D ++ (E ++ (x :: q))))) m (i + (D1.length : Int) + 1) j) r) → Ev (fun k => syC z cmp k (p ++ (C ++ (D ++ (E ++ (x :: q))))) m i j) r := by
      intro r k1 k2
      refine Ev.step (f := fun k => (cmp k x e).bind fun t => if t < 0 then syC z cmp k (p ++ (C ++ (D ++ (E ++ (x :: q))))) m i (i + (D1.length : Int)) else syC z cmp k (p ++ (C ++ (D ++ (E ++ (x :: q))))) m (i + (D1.length : Int) + 1) j) (fun k => ?_) (Ev.bind ht ?_)
      · simp only [syC]
        rw [hl, hh, wrap_small (x := i + (D1.length : Int) + 1) (by omega) (by omega), if_pos (by omega), if_pos (by omega), if_pos (by omega), if_pos (by omega), if_pos (by omega), g1, g2]
      · by_cases hti : t < 0
        · exact Ev.congr (fun k => by rw [if_pos hti]) (k1 hti)
        · exact Ev.congr (fun k => by rw [if_neg hti]) (k2 hti)
    by_cases hlt : lt x e = true
    · obtain ⟨S, s1, s2, s3⟩ := ih C D1 (e :: (D2 ++ E)) p q x m i (i + (D1.length : Int)) (by omega) (by rw [hD] at hb2; simpa using hb2) hx (fun y hy => hp y (by rw [hD]; simp [hy])) (by simp; omega) hi (by omega) (by rw [hD] at hs; simpa using hs) h1
        (fun y hy => by
          rcases List.mem_cons.1 hy with rfl | hy
          · exact hlt
          · rcases List.mem_append.1 hy with hy | hy
            · cases hyx : lt x y with
              | true => rfl
              | false => exact absurd hlt (by rw [ho.ntr hyx (hs1.right.head hy)]; simp)
            · exact h2 y hy)
      refine ⟨S, s1, by rw [hD]; simpa using s2, step _ (fun _ => ?_) (fun hn => absurd (htl.2 hlt) hn)⟩
      rw [hD]
      simpa using s3
    · have hlt' : lt x e = false := by simpa using hlt
      obtain ⟨S, s1, s2, s3⟩ := ih (C ++ (D1 ++ [e])) D2 E p q x m (i + (D1.length : Int) + 1) j (by omega) (by rw [hD] at hb2; simpa using hb2) hx (fun y hy => hp y (by rw [hD]; simp [hy])) (by simp; omega) (by simp; omega) (by simp; omega) (by rw [hD] at hs; simpa using hs)
        (fun y hy => by
          rcases List.mem_append.1 hy with hy | hy
          · exact h1 y hy
          · rcases List.mem_append.1 hy with hy | hy
            · exact ho.ntr hlt' (hs1.between hy (List.mem_cons_self))
            · obtain rfl : y = e := by simpa using hy
              exact hlt')
        h2
      refine ⟨S, s1, by rw [hD]; simpa using s2, step _ (fun h => absurd (htl.1 h) hlt) (fun _ => ?_)⟩
      rw [hD]
      simpa using s3
end
end Go.Proofs.YtbcocpaeehgmnaaDoorW.Sort

namespace Go.Proofs.YtbcocpaeehgmnaaDoorW.Sort
open Go.RowKit Go.Proofs.YtbcocpaeehgmnaaDoorW.PrintWords

section
variable {α : Type} {lt : α → α → Bool} {z : α} {cmp : Nat → α → α → Option Int} {P : α → Prop}

theorem syI_run {L L1 L2 : List α} {a b mid e end_ : Int} {f : Bool} (h1 : f = true → Ev (fun k => sym z cmp k L a e mid) L1) (h1' : f = false → L1 = L) (h2 : mid < end_ ∧ end_ < b → Ev (fun k => sym z cmp k L1 mid end_ b) L2) (h2' : ¬ (mid < end_ ∧ end_ < b) → L2 = L1) :
    Ev (fun k => syI z cmp k L a b mid e end_ f) L2 := by
  have tail : Ev (fun k => if mid < end_ then (if end_ < b then (sym z cmp k L1 mid end_ b).bind fun t' => some t' else some L1) else some L1) L2 := by
    by_cases c1 : mid < end_
    · by_cases c2 : end_ < b
      · exact Ev.congr (fun k => by rw [if_pos c1, if_pos c2]) (Ev.bind (f := fun _ t => some t) (h2 ⟨c1, c2⟩) (Ev.now _))
      · rw [h2' (fun h => c2 h.2)]
        exact Ev.congr (fun k => by rw [if_pos c1, if_neg c2]) (Ev.now _)
    · rw [h2' (fun h => c1 h.1)]
      exact Ev.congr (fun k => by rw [if_neg c1]) (Ev.now _)
  cases f with
  | true =>
    refine Ev.step (f := fun k => (sym z cmp k L a e mid).bind fun t => (if mid < end_ then (if end_ < b then ((sym z cmp k t mid end_ b).bind fun t' => some t') else some t) else some t)) (fun k => ?_) (Ev.bind (h1 rfl) tail)
    simp only [syI]
    rw [if_pos trivial]
  | false =>
    rw [h1' rfl] at tail
    refine Ev.step (fun k => ?_) tail
    simp only [syI]
    rw [if_neg (by simp)]
theorem syH_run {L L2 : List α} {a b mid e end_ : Int} (h : Ev (fun k => syI z cmp k L a b mid e end_ (decide (a < e ∧ e < mid))) L2) : Ev (fun k => syH z cmp k L a b mid e end_) L2 := by
  refine Ev.step (fun k => ?_) h
  simp only [syH]
  by_cases c : a < e
  · rw [if_pos c]; simp [c]
  · rw [if_neg c]; simp [c]
theorem syG_run {L L1 L2 : List α} {a m b mid e end_ : Int} {f : Bool} (h1 : f = true → Ev (fun k => rot z k L m (wrap64 (m - e)) (wrap64 (end_ - m))) L1) (h1' : f = false → L1 = L) (h : Ev (fun k => syH z cmp k L1 a b mid e end_) L2) :
    Ev (fun k => syG z cmp k L a m b mid e end_ f) L2 := by
  cases f with
  | true =>
    refine Ev.step (f := fun k => (rot z k L m (wrap64 (m - e)) (wrap64 (end_ - m))).bind fun t => syH z cmp k t a b mid e end_) (fun k => ?_) (Ev.bind (h1 rfl) h)
    simp only [syG]
    rw [if_pos trivial]
  | false =>
    rw [h1' rfl] at h
    refine Ev.step (fun k => ?_) h
    simp only [syG]
    rw [if_neg (by simp)]

variable (ho : Ord_ lt) (hc : Tells lt cmp P)
include hc

/-- Where the second part of the first block begins. -/
theorem syF_run {L : List α} {a m b mid n lo r0 : Int} (hP : ∀ y, y ∈ L → P y) (hL : L.length ≤ 100000000000000) (hr : ∀ c, lo ≤ c → c < r0 → 0 ≤ n - 1 - c ∧ n - 1 - c < (L.length : Int) ∧ 0 ≤ c ∧ c < (L.length : Int)) (hn : 0 ≤ n ∧ n ≤ 200000000000000) (hlo : 0 ≤ lo) (hr0 : r0 ≤ 100000000000000) :
    ∀ (d : Nat) (s r : Int), r - s ≤ (d : Int) → lo ≤ s → s ≤ r → r ≤ r0 → (s = lo ∨ lt (rd z L (n - s)) (rd z L (s - 1)) = false) → (r = r0 ∨ lt (rd z L (n - 1 - r)) (rd z L r) = true) →
    ∃ e, lo ≤ e ∧ e ≤ r0 ∧ (e = lo ∨ lt (rd z L (n - e)) (rd z L (e - 1)) = false) ∧ (e = r0 ∨ lt (rd z L (n - 1 - e)) (rd z L e) = true) ∧
      ∀ res, Ev (fun k => syG z cmp k L a m b mid e (n - e) (decide (e < m ∧ m < n - e))) res → Ev (fun k => syF z cmp k L a m b mid n s r (n - 1)) res := by
  have fin : ∀ (s r : Int), ¬ s < r → lo ≤ s → s ≤ r0 → ∀ res, Ev (fun k => syG z cmp k L a m b mid s (n - s) (decide (s < m ∧ m < n - s))) res → Ev (fun k => syF z cmp k L a m b mid n s r (n - 1)) res := by
    intro s r hsr h1 h2 res hres
    refine Ev.step (fun k => ?_) hres
    simp only [syF]
    have w : wrap64 (n - s) = n - s := wrap_small (by omega) (by omega)
    rw [if_neg hsr, w]
    by_cases c : s < m
    · rw [if_pos c]; simp [c]
    · rw [if_neg c]; simp [c]
  intro d
  induction d with
  | zero =>
    intro s r h1 h2 h3 h4 h5 h6
    obtain rfl : s = r := by omega
    exact ⟨s, h2, h4, h5, h6, fin s s (by omega) h2 h4⟩
  | succ d ih =>
    intro s r h1 h2 h3 h4 h5 h6
    by_cases hsr : s < r
    · have hh : half s r = (s + r) / 2 := half_eq (by omega) (by omega) (by omega) (by omega)
      obtain ⟨c, hcv⟩ : ∃ c, c = (s + r) / 2 := ⟨_, rfl⟩
      rw [← hcv] at hh
      have hc1 : s ≤ c := by omega
      have hc2 : c < r := by omega
      obtain ⟨q1, q2, q3, q4⟩ := hr c (by omega) (by omega)
      obtain ⟨t, ht, htl⟩ := hc (rd z L (n - 1 - c)) (rd z L c) (hP _ (rd_mem q1 q2)) (hP _ (rd_mem q3 q4))
      have step : ∀ res, (t < 0 → Ev (fun k => syF z cmp k L a m b mid n s c (n - 1)) res) → (¬ t < 0 → Ev (fun k => syF z cmp k L a m b mid n (c + 1) r (n - 1)) res) → Ev (fun k => syF z cmp k L a m b mid n s r (n - 1)) res := by
        intro res k1 k2
        refine Ev.step (f := fun k => (cmp k (rd z L (n - 1 - c)) (rd z L c)).bind fun t => if t < 0 then syF z cmp k L a m b mid n s c (n - 1) else syF z cmp k L a m b mid n (c + 1) r (n - 1)) (fun k => ?_) (Ev.bind ht ?_)
        · simp only [syF]
          rw [hh, wrap_small (x := n - 1 - c) (by omega) (by omega), wrap_small (x := c + 1) (by omega) (by omega), if_pos hsr, if_pos q1, if_pos q2, if_pos q3, if_pos q4]
        · by_cases hti : t < 0
          · exact Ev.congr (fun k => by rw [if_pos hti]) (k1 hti)
          · exact Ev.congr (fun k => by rw [if_neg hti]) (k2 hti)
      by_cases hti : t < 0
      · obtain ⟨e, e1, e2, e3, e4, e5⟩ := ih s c (by omega) h2 (by omega) (by omega) h5 (.inr (htl.1 hti))
        exact ⟨e, e1, e2, e3, e4, fun res hres => step res (fun _ => e5 res hres) (fun h => absurd hti h)⟩
      · have hf : lt (rd z L (n - 1 - c)) (rd z L c) = false := by simpa using fun h => hti (htl.2 h)
        obtain ⟨e, e1, e2, e3, e4, e5⟩ := ih (c + 1) r (by omega) (by omega) (by omega) h4 (.inr (by rw [show n - (c + 1) = n - 1 - c by omega, show c + 1 - 1 = c by omega]; exact hf)) h6
        exact ⟨e, e1, e2, e3, e4, fun res hres => step res (fun h => absurd h hti) (fun _ => e5 res hres)⟩
    · obtain rfl : s = r := by omega
      exact ⟨s, h2, h4, h5, h6, fin s s hsr h2 h4⟩

include ho
theorem sym_run : ∀ (n : Nat) (A B p q : List α) (a m b : Int), A.length + B.length ≤ n → A ≠ [] → B ≠ [] → (p ++ (A ++ (B ++ q))).length ≤ 100000000000000 → (∀ y, y ∈ p ++ (A ++ (B ++ q)) → P y) →
    a = (p.length : Int) → m = (p.length : Int) + (A.length : Int) → b = (p.length : Int) + (A.length : Int) + (B.length : Int) → Sorted lt A → Sorted lt B →
    ∃ S, Sorted lt S ∧ Stab lt (A ++ B) S ∧ Ev (fun k => sym z cmp k (p ++ (A ++ (B ++ q))) a m b) (p ++ (S ++ q)) := by
  intro n
  induction n with
  | zero =>
    intro A B p q a m b hn hA
    exact absurd (List.length_eq_zero_iff.1 (by omega)) hA
  | succ n ih =>
    intro A B p q a m b hn hA hB hb hP ha hm hbb hsA hsB
    have hA0 : 0 < A.length := List.length_pos_iff.2 hA
    have hB0 : 0 < B.length := List.length_pos_iff.2 hB
    have hl : (p ++ (A ++ (B ++ q))).length = p.length + A.length + B.length + q.length := by simp; omega
    have hb2 := hb
    rw [hl] at hb
    have w1 : wrap64 (m - a) = (A.length : Int) := by rw [wrap_small (by omega) (by omega)]; omega
    have w2 : wrap64 (b - m) = (B.length : Int) := by rw [wrap_small (by omega) (by omega)]; omega
    by_cases cA : A.length = 1
    · obtain ⟨x, rfl⟩ := List.length_eq_one_iff.1 cA
      obtain ⟨S, s1, s2, s3⟩ := syA_run (z := z) ho hc B.length [] B [] p q x a m b (Nat.le_refl _) (by simpa using hb2) (hP x (by simp)) (fun y hy => hP y (by simp [hy])) ha (by simp at hm ⊢; omega) (by simp at hbb ⊢; omega) (by simpa using hsB) (fun y hy => by cases hy) (fun y hy => by cases hy)
      refine ⟨S, s1, by simpa using s2, Ev.step (f := fun k => syA z cmp k (p ++ ([x] ++ (B ++ q))) a m b) (fun k => ?_) (by simpa using s3)⟩
      simp only [sym]
      rw [w1, if_pos (by simp)]
    by_cases cB : B.length = 1
    · obtain ⟨x, rfl⟩ := List.length_eq_one_iff.1 cB
      obtain ⟨S, s1, s2, s3⟩ := syC_run (z := z) ho hc A.length [] A [] p q x m a m (Nat.le_refl _) (by simpa using hb2) (hP x (by simp)) (fun y hy => hP y (by simp [hy])) (by simp; omega) (by simp; omega) (by simp; omega) (by simpa using hsA) (fun y hy => by cases hy) (fun y hy => by cases hy)
      refine ⟨S, s1, by simpa using s2, Ev.step (f := fun k => syC z cmp k (p ++ (A ++ ([x] ++ q))) m a m) (fun k => ?_) (by simpa using s3)⟩
      simp only [sym]
      rw [w1, if_neg (by omega), w2, if_pos (by simp)]
    obtain ⟨mid, hmid⟩ : ∃ x, x = (a + b) / 2 := ⟨_, rfl⟩
    have hh : half a b = mid := by rw [half_eq (by omega) (by omega) (by omega) (by omega), hmid]
    obtain ⟨n', hn'⟩ : ∃ x, x = mid + m := ⟨_, rfl⟩
    have wn : wrap64 (mid + m) = n' := by rw [wrap_small (by omega) (by omega), hn']
    have hz : ∃ lo r0, lo ≤ r0 ∧ a ≤ lo ∧ r0 ≤ m ∧ r0 ≤ mid ∧ n' - lo ≤ b ∧ (lo = a ∨ n' - lo = b) ∧ (r0 = m ∨ r0 = mid) ∧ ∀ res, Ev (fun k => syF z cmp k (p ++ (A ++ (B ++ q))) a m b mid n' lo r0 (n' - 1)) res → Ev (fun k => sym z cmp k (p ++ (A ++ (B ++ q))) a m b) res := by
      by_cases cm : m > mid
      · refine ⟨n' - b, mid, by omega, by omega, by omega, by omega, by omega, by omega, by omega, fun res hres => ?_⟩
        refine Ev.step (f := fun k => syE z cmp k (p ++ (A ++ (B ++ q))) a m b mid n' (n' - b) mid) (fun k => ?_) (Ev.step (fun k => ?_) hres)
        · simp only [sym]
          rw [w1, if_neg (by omega), w2, if_neg (by omega), hh, if_pos cm, wn, wrap_small (x := n' - b) (by omega) (by omega)]
        · simp only [syE]
          rw [wrap_small (x := n' - 1) (by omega) (by omega)]
      · refine ⟨a, m, by omega, by omega, by omega, by omega, by omega, by omega, by omega, fun res hres => ?_⟩
        refine Ev.step (f := fun k => syE z cmp k (p ++ (A ++ (B ++ q))) a m b mid n' a m) (fun k => ?_) (Ev.step (fun k => ?_) hres)
        · simp only [sym]
          rw [w1, if_neg (by omega), w2, if_neg (by omega), hh, if_neg cm, wn]
        · simp only [syE]
          rw [wrap_small (x := n' - 1) (by omega) (by omega)]
    obtain ⟨lo, r0, z1, z2, z3, z4, z5, z6, z7, hsym⟩ := hz
    obtain ⟨e, e1, e2, e3, e4, e5⟩ := syF_run (lt := lt) (z := z) (a := a) (m := m) (b := b) (mid := mid) (n := n') (lo := lo) (r0 := r0) hc hP hb2 (fun c h1 h2 => by rw [hl]; omega) (by omega) (by omega) (by omega) (r0 - lo).toNat lo r0 (by omega) (by omega) z1 (by omega) (.inl rfl) (.inl rfl)
    -- the four parts
    obtain ⟨i1, hi1⟩ : ∃ x : Nat, (x : Int) = e - a := ⟨(e - a).toNat, by omega⟩
    obtain ⟨i2, hi2⟩ : ∃ x : Nat, (x : Int) = mid - e := ⟨(mid - e).toNat, by omega⟩
    obtain ⟨A1, hA1⟩ : ∃ x, x = A.take i1 := ⟨_, rfl⟩
    obtain ⟨A2, hA2⟩ : ∃ x, x = A.drop i1 := ⟨_, rfl⟩
    obtain ⟨B1, hB1⟩ : ∃ x, x = B.take i2 := ⟨_, rfl⟩
    obtain ⟨B2, hB2⟩ : ∃ x, x = B.drop i2 := ⟨_, rfl⟩
    have eA : A = A1 ++ A2 := by rw [hA1, hA2, List.take_append_drop]
    have eB : B = B1 ++ B2 := by rw [hB1, hB2, List.take_append_drop]
    have lA1 : A1.length = i1 := by rw [hA1, List.length_take]; omega
    have lB1 : B1.length = i2 := by rw [hB1, List.length_take]; omega
    have lA : A.length = A1.length + A2.length := by rw [eA]; simp
    have lB : B.length = B1.length + B2.length := by rw [eB]; simp
    clear hA1 hA2 hB1 hB2
    have eL : p ++ (A ++ (B ++ q)) = p ++ (A1 ++ (A2 ++ (B1 ++ (B2 ++ q)))) := by rw [eA, eB]; simp
    have sA1 : Sorted lt A1 := by rw [eA] at hsA; exact hsA.left
    have sA2 : Sorted lt A2 := by rw [eA] at hsA; exact hsA.right
    have sB1 : Sorted lt B1 := by rw [eB] at hsB; exact hsB.left
    have sB2 : Sorted lt B2 := by rw [eB] at hsB; exact hsB.right
    -- the first part is not behind the last
    have F1 : ∀ u, u ∈ A1 → ∀ v, v ∈ B2 → lt v u = false := by
      intro u hu v hv
      have hu0 : 0 < A1.length := List.length_pos_of_mem hu
      have hv0 : 0 < B2.length := List.length_pos_of_mem hv
      rcases e3 with e3 | e3
      · exfalso
        rcases z6 with z6 | z6 <;> omega
      · rcases List.eq_nil_or_concat A1 with h0 | ⟨A1', u0, h0⟩
        · rw [h0] at hu0; simp at hu0
        · rw [List.concat_eq_append] at h0
          obtain ⟨v0, B2', hv0'⟩ := List.exists_cons_of_ne_nil (List.length_pos_iff.1 hv0)
          have l0 : A1.length = A1'.length + 1 := by rw [h0]; simp
          have g1 : rd z (p ++ (A ++ (B ++ q))) (e - 1) = u0 := by
            have := rd_at (z := z) (p := p ++ A1') (q := A2 ++ (B1 ++ (B2 ++ q))) (x := u0) (i := e - 1) (by simp; omega)
            rw [eL, h0]
            simpa using this
          have g2 : rd z (p ++ (A ++ (B ++ q))) (n' - e) = v0 := by
            have := rd_at (z := z) (p := p ++ (A1 ++ (A2 ++ B1))) (q := B2' ++ q) (x := v0) (i := n' - e) (by simp; omega)
            rw [eL, hv0']
            simpa using this
          rw [g1, g2] at e3
          have a1 : lt u0 u = false := by
            rw [h0] at hu sA1
            rcases List.mem_append.1 hu with hu | hu
            · exact sA1.between hu (by simp)
            · rw [List.mem_singleton.1 hu]; exact irr ho _
          have a2 : lt v v0 = false := by
            rw [hv0'] at hv sB2
            rcases List.mem_cons.1 hv with rfl | hv
            · exact irr ho _
            · exact sB2.head hv
          exact ho.ntr a2 (ho.ntr e3 a1)
    have F2 : ∀ x, x ∈ A2 → ∀ y, y ∈ B1 → lt y x = true := by
      intro x hx y hy
      have hx0 : 0 < A2.length := List.length_pos_of_mem hx
      have hy0 : 0 < B1.length := List.length_pos_of_mem hy
      rcases e4 with e4 | e4
      · exfalso
        rcases z7 with z7 | z7 <;> omega
      · rcases List.eq_nil_or_concat B1 with h0 | ⟨B1', y0, h0⟩
        · rw [h0] at hy0; simp at hy0
        · rw [List.concat_eq_append] at h0
          obtain ⟨x0, A2', hx0'⟩ := List.exists_cons_of_ne_nil (List.length_pos_iff.1 hx0)
          have l0 : B1.length = B1'.length + 1 := by rw [h0]; simp
          have g1 : rd z (p ++ (A ++ (B ++ q))) (n' - 1 - e) = y0 := by
            have := rd_at (z := z) (p := p ++ (A1 ++ (A2 ++ B1'))) (q := B2 ++ q) (x := y0) (i := n' - 1 - e) (by simp; omega)
            rw [eL, h0]
            simpa using this
          have g2 : rd z (p ++ (A ++ (B ++ q))) e = x0 := by
            have := rd_at (z := z) (p := p ++ A1) (q := A2' ++ (B1 ++ (B2 ++ q))) (x := x0) (i := e) (by simp; omega)
            rw [eL, hx0']
            simpa using this
          rw [g1, g2] at e4
          have a1 : lt y0 y = false := by
            rw [h0] at hy sB1
            rcases List.mem_append.1 hy with hy | hy
            · exact sB1.between hy (by simp)
            · rw [List.mem_singleton.1 hy]; exact irr ho _
          have a2 : lt x x0 = false := by
            rw [hx0'] at hx sA2
            rcases List.mem_cons.1 hx with rfl | hx
            · exact irr ho _
            · exact sA2.head hx
          cases hyx : lt y x with
          | true => rfl
          | false => exact absurd e4 (by rw [ho.ntr a1 (ho.ntr hyx a2)]; simp)
    -- the two halves
    have H1 : ∃ S1, Sorted lt S1 ∧ Stab lt (A1 ++ B1) S1 ∧ (decide (a < e ∧ e < mid) = true → Ev (fun k => sym z cmp k (p ++ (A1 ++ (B1 ++ (A2 ++ (B2 ++ q))))) a e mid) (p ++ (S1 ++ (A2 ++ (B2 ++ q))))) ∧ (decide (a < e ∧ e < mid) = false → S1 = A1 ++ B1) := by
      by_cases c : a < e ∧ e < mid
      · obtain ⟨S1, t1, t2, t3⟩ := ih A1 B1 p (A2 ++ (B2 ++ q)) a e mid (by omega) (List.length_pos_iff.1 (by omega)) (List.length_pos_iff.1 (by omega)) (by simp; omega)
          (fun y hy => hP y (by rw [eL]; simp only [List.mem_append] at hy ⊢; rcases hy with h | h | h | h | h | h <;> simp [h])) ha (by omega) (by omega) sA1 sB1
        exact ⟨S1, t1, t2, fun _ => t3, fun h => absurd c (by simpa using h)⟩
      · refine ⟨A1 ++ B1, ?_, Stab.refl _, fun h => absurd (by simpa using h) c, fun _ => rfl⟩
        by_cases c1 : A1.length = 0
        · rw [List.length_eq_zero_iff.1 c1]; simpa using sB1
        · rw [List.length_eq_zero_iff.1 (show B1.length = 0 by omega)]; simpa using sA1
    obtain ⟨S1, t1, t2, t3, t4⟩ := H1
    have lS1 : S1.length = A1.length + B1.length := by rw [t2.len]; simp
    have H2 : ∃ S2, Sorted lt S2 ∧ Stab lt (A2 ++ B2) S2 ∧ (mid < n' - e ∧ n' - e < b → Ev (fun k => sym z cmp k (p ++ (S1 ++ (A2 ++ (B2 ++ q)))) mid (n' - e) b) (p ++ (S1 ++ (S2 ++ q)))) ∧ (¬ (mid < n' - e ∧ n' - e < b) → S2 = A2 ++ B2) := by
      by_cases c : mid < n' - e ∧ n' - e < b
      · obtain ⟨S2, u1, u2, u3⟩ := ih A2 B2 (p ++ S1) q mid (n' - e) b (by omega) (List.length_pos_iff.1 (by omega)) (List.length_pos_iff.1 (by omega)) (by simp; omega)
          (fun y hy => hP y (by
            rw [eL]
            simp only [List.mem_append] at hy ⊢
            rcases hy with (hy | hy) | hy
            · exact .inl hy
            · have := t2.mem.1 hy
              rw [List.mem_append] at this
              rcases this with h | h
              · exact .inr (.inl h)
              · exact .inr (.inr (.inr (.inl h)))
            · rcases hy with h | h | h
              · exact .inr (.inr (.inl h))
              · exact .inr (.inr (.inr (.inr (.inl h))))
              · exact .inr (.inr (.inr (.inr (.inr h)))))) (by simp; omega) (by simp; omega) (by simp; omega) sA2 sB2
        exact ⟨S2, u1, u2, fun _ => by simpa using u3, fun h => absurd c h⟩
      · refine ⟨A2 ++ B2, ?_, Stab.refl _, fun h => absurd h c, fun _ => rfl⟩
        by_cases c1 : A2.length = 0
        · rw [List.length_eq_zero_iff.1 c1]; simpa using sB2
        · rw [List.length_eq_zero_iff.1 (show B2.length = 0 by omega)]; simpa using sA2
    obtain ⟨S2, u1, u2, u3, u4⟩ := H2
    refine ⟨S1 ++ S2, Sorted.app t1 u1 (fun x hx y hy => ?_), ?_, hsym _ (e5 _ ?_)⟩
    · have hx' := t2.mem.1 hx
      have hy' := u2.mem.1 hy
      rw [List.mem_append] at hx' hy'
      rcases hx' with hx' | hx' <;> rcases hy' with hy' | hy'
      · rw [eA] at hsA; exact hsA.between hx' hy'
      · exact F1 x hx' y hy'
      · exact ho.asymm (F2 y hy' x hx')
      · rw [eB] at hsB; exact hsB.between hx' hy'
    · have r1 := Stab.app (Stab.refl (lt := lt) A1) (Stab.app (Stab.rot (lt := lt) ho (U := A2) (V := B1) F2) (Stab.refl (lt := lt) B2))
      have r2 := Stab.app t2 u2
      rw [eA, eB]
      refine Stab.trans ?_ r2
      simpa using r1
    · refine syG_run (L1 := p ++ (A1 ++ (B1 ++ (A2 ++ (B2 ++ q))))) (fun hf => ?_) (fun hf => ?_) (syH_run ?_)
      · have hf' : e < m ∧ m < n' - e := by simpa using hf
        have r := rot_run (z := z) (A2.length + B1.length) A2 B1 (p ++ A1) (B2 ++ q) m (wrap64 (m - e)) (wrap64 (n' - e - m)) (Nat.le_refl _) (List.length_pos_iff.1 (by omega)) (List.length_pos_iff.1 (by omega)) (by simp; omega) (by simp; omega) (by rw [wrap_small (by omega) (by omega)]; omega) (by rw [wrap_small (by omega) (by omega)]; omega)
        rw [eL]
        simpa using r
      · have hf' : ¬ (e < m ∧ m < n' - e) := by simpa using hf
        rw [eL]
        by_cases c1 : A2.length = 0
        · rw [List.length_eq_zero_iff.1 c1]; simp
        · rw [List.length_eq_zero_iff.1 (show B1.length = 0 by omega)]; simp
      · refine syI_run (L1 := p ++ (S1 ++ (A2 ++ (B2 ++ q)))) t3 (fun hf => by rw [t4 hf]; simp) (fun hc2 => by simpa using u3 hc2) (fun hc2 => by rw [u4 hc2]; simp)
end
end Go.Proofs.YtbcocpaeehgmnaaDoorW.Sort

namespace Go.Proofs.YtbcocpaeehgmnaaDoorW.Sort
open Go.RowKit Go.Proofs.YtbcocpaeehgmnaaDoorW.PrintWords

section
variable {α : Type} {lt : α → α → Bool} {z : α} {cmp : Nat → α → α → Option Int} {P : α → Prop}

/-- Sorted in blocks of some length. -/
def Blk (lt : α → α → Bool) (n : Nat) (L : List α) : Prop := ∃ (Bs : List (List α)) (last : List α), L = Bs.flatten ++ last ∧ (∀ B, B ∈ Bs → B.length = n ∧ Sorted lt B) ∧ last.length ≤ n ∧ Sorted lt last
theorem Blk.last {n : Nat} {L : List α} (h : L.length ≤ n) (hs : Sorted lt L) : Blk lt n L := ⟨[], L, by simp, (fun _ h => by cases h), h, hs⟩
theorem Blk.cons {n : Nat} {B L : List α} (hb : B.length = n) (hs : Sorted lt B) (h : Blk lt n L) : Blk lt n (B ++ L) := by
  obtain ⟨Bs, l, rfl, h1, h2, h3⟩ := h
  refine ⟨B :: Bs, l, by simp, fun C hC => ?_, h2, h3⟩
  rcases List.mem_cons.1 hC with rfl | hC
  · exact ⟨hb, hs⟩
  · exact h1 C hC
theorem Blk.parts {n : Nat} {L : List α} (h : Blk lt n L) : (L.length ≤ n ∧ Sorted lt L) ∨ ∃ B L', L = B ++ L' ∧ B.length = n ∧ Sorted lt B ∧ Blk lt n L' := by
  obtain ⟨Bs, l, rfl, h1, h2, h3⟩ := h
  cases Bs with
  | nil => exact .inl ⟨by simpa using h2, by simpa using h3⟩
  | cons B Bs =>
    obtain ⟨a, b⟩ := h1 B (List.mem_cons_self)
    exact .inr ⟨B, Bs.flatten ++ l, by simp, a, b, Bs, l, rfl, fun C hC => h1 C (List.mem_cons_of_mem _ hC), h2, h3⟩
theorem Blk.one {n : Nat} {L : List α} (h : Blk lt n L) (hl : L.length ≤ n) : Sorted lt L := by
  rcases h.parts with h | ⟨B, L', rfl, h1, h2, _⟩
  · exact h.2
  · have : L'.length = 0 := by simp at hl; omega
    rw [List.length_eq_zero_iff.1 this]
    simpa using h2
theorem Blk.more {n : Nat} {L : List α} (h : Blk lt n L) (hl : n < L.length) : ∃ B L', L = B ++ L' ∧ B.length = n ∧ Sorted lt B ∧ Blk lt n L' := by
  rcases h.parts with h | h
  · omega
  · exact h

variable (ho : Ord_ lt) (hc : Tells lt cmp P)
include ho hc

theorem stA_run : ∀ (n : Nat) (rest D : List α) (a b N : Int), rest.length ≤ n → (D ++ rest).length ≤ 100000000000000 → (∀ y, y ∈ D ++ rest → P y) → a = (D.length : Int) → b = (D.length : Int) + 20 → N = (D.length : Int) + (rest.length : Int) →
    ∃ rest', Blk lt 20 rest' ∧ Stab lt rest rest' ∧ ∀ res, Ev (fun k => stB z cmp k (D ++ rest') N 20) res → Ev (fun k => stA z cmp k (D ++ rest) N 20 a b) res := by
  intro n
  induction n with
  | zero =>
    intro rest D a b N hn hb hP ha hbb hN
    obtain rfl : rest = [] := List.length_eq_zero_iff.1 (by omega)
    refine ⟨[], Blk.last (by simp) Sorted.nil, Stab.refl _, fun res hres => ?_⟩
    obtain ⟨S, s1, s2, s3⟩ := ins_run (z := z) ho hc [] D [] a N (by simpa using hb) (fun y hy => by cases hy) ha (by simpa using hN)
    obtain rfl : S = [] := List.length_eq_zero_iff.1 (by rw [s2.len]; rfl)
    refine Ev.step (f := fun k => (insA z cmp k (D ++ []) a N (wrap64 (a + 1))).bind fun t => stB z cmp k t N 20) (fun k => ?_) (Ev.bind (a := D ++ []) (f := fun k t => stB z cmp k t N 20) (by simpa using s3) hres)
    simp only [stA]
    rw [if_neg (by simp at hN; omega)]
  | succ n ih =>
    intro rest D a b N hn hb hP ha hbb hN
    simp only [List.length_append] at hb
    by_cases hl : b ≤ N
    · obtain ⟨B, hB⟩ : ∃ x, x = rest.take 20 := ⟨_, rfl⟩
      obtain ⟨rest2, hr2⟩ : ∃ x, x = rest.drop 20 := ⟨_, rfl⟩
      have e : rest = B ++ rest2 := by rw [hB, hr2, List.take_append_drop]
      have lB : B.length = 20 := by rw [hB, List.length_take]; omega
      have lr : rest.length = B.length + rest2.length := by rw [e]; simp
      clear hB hr2
      obtain ⟨S, s1, s2, s3⟩ := ins_run (z := z) ho hc B D rest2 a b (by simp; omega) (fun y hy => hP y (by rw [e]; simp [hy])) ha (by omega)
      have lS : S.length = 20 := by rw [s2.len, lB]
      obtain ⟨R, r1, r2, r3⟩ := ih rest2 (D ++ S) b (b + 20) N (by omega) (by simp; omega)
        (fun y hy => hP y (by
          rw [e]
          simp only [List.mem_append] at hy ⊢
          rcases hy with (h | h) | h
          · exact .inl h
          · exact .inr (.inl (s2.mem.1 h))
          · exact .inr (.inr h))) (by simp; omega) (by simp; omega) (by simp; omega)
      refine ⟨S ++ R, Blk.cons lS s1 r1, by rw [e]; exact Stab.app s2 r2, fun res hres => ?_⟩
      refine Ev.step (f := fun k => (insA z cmp k (D ++ rest) a b (wrap64 (a + 1))).bind fun t => stA z cmp k t N 20 b (b + 20)) (fun k => ?_) (Ev.bind (a := (D ++ S) ++ rest2) (f := fun k t => stA z cmp k t N 20 b (b + 20)) (by rw [e]; simpa using s3) (r3 res (by simpa using hres)))
      simp only [stA]
      rw [if_pos hl, wrap_small (x := b + 20) (by omega) (by omega)]
    · obtain ⟨S, s1, s2, s3⟩ := ins_run (z := z) ho hc rest D [] a N (by simp; omega) (fun y hy => hP y (by simp [hy])) ha hN
      refine ⟨S, Blk.last (by rw [s2.len]; omega) s1, s2, fun res hres => ?_⟩
      refine Ev.step (f := fun k => (insA z cmp k (D ++ rest) a N (wrap64 (a + 1))).bind fun t => stB z cmp k t N 20) (fun k => ?_) (Ev.bind (a := D ++ S) (f := fun k t => stB z cmp k t N 20) (by simpa using s3) hres)
      simp only [stA]
      rw [if_neg hl]

theorem stC_run (bs : Nat) (hbs : 1 ≤ bs) (hbs2 : bs ≤ 100000000000000) : ∀ (n : Nat) (rest D : List α) (a b N : Int), rest.length ≤ n → (D ++ rest).length ≤ 100000000000000 → (∀ y, y ∈ D ++ rest → P y) → Blk lt bs rest → a = (D.length : Int) → b = (D.length : Int) + 2 * (bs : Int) → N = (D.length : Int) + (rest.length : Int) →
    ∃ rest', Blk lt (2 * bs) rest' ∧ Stab lt rest rest' ∧ ∀ res, Ev (fun k => stB z cmp k (D ++ rest') N ((2 * bs : Nat) : Int)) res → Ev (fun k => stC z cmp k (D ++ rest) N (bs : Int) a b) res := by
  intro n
  induction n with
  | zero =>
    intro rest D a b N hn hb hP hB ha hbb hN
    obtain rfl : rest = [] := List.length_eq_zero_iff.1 (by omega)
    refine ⟨[], Blk.last (by simp) Sorted.nil, Stab.refl _, fun res hres => Ev.step (fun k => ?_) hres⟩
    simp only [List.length_append, List.length_nil] at hb hN
    simp only [stC]
    rw [if_neg (by omega), wrap_small (x := a + (bs : Int)) (by omega) (by omega), if_neg (by omega), wrap_small (x := (bs : Int) * 2) (by omega) (by omega), show (bs : Int) * 2 = ((2 * bs : Nat) : Int) by omega]
  | succ n ih =>
    intro rest D a b N hn hb hP hB ha hbb hN
    simp only [List.length_append] at hb
    have wx : wrap64 ((bs : Int) * 2) = ((2 * bs : Nat) : Int) := by rw [wrap_small (by omega) (by omega)]; omega
    have wy : wrap64 (2 * (bs : Int)) = ((2 * bs : Nat) : Int) := by rw [wrap_small (by omega) (by omega)]; omega
    have wa : wrap64 (a + (bs : Int)) = a + (bs : Int) := wrap_small (by omega) (by omega)
    by_cases hl : b ≤ N
    · obtain ⟨B1, R1, e1, l1, q1, k1⟩ := hB.more (by omega)
      have lr1 : rest.length = B1.length + R1.length := by rw [e1]; simp
      have hz : ∃ B2 R2, R1 = B2 ++ R2 ∧ B2.length = bs ∧ Sorted lt B2 ∧ Blk lt bs R2 := by
        rcases k1.parts with h | h
        · exact ⟨R1, [], by simp, by omega, h.2, Blk.last (by simp) Sorted.nil⟩
        · exact h
      obtain ⟨B2, R2, e2, l2, q2, k2⟩ := hz
      have lr2 : R1.length = B2.length + R2.length := by rw [e2]; simp
      have e : rest = B1 ++ (B2 ++ R2) := by rw [e1, e2]
      obtain ⟨S, s1, s2, s3⟩ := sym_run (z := z) ho hc (B1.length + B2.length) B1 B2 D R2 a (a + (bs : Int)) b (Nat.le_refl _) (List.length_pos_iff.1 (by omega)) (List.length_pos_iff.1 (by omega)) (by simp; omega) (fun y hy => hP y (by rw [e]; simpa using hy)) ha (by omega) (by omega) q1 q2
      have lS : S.length = B1.length + B2.length := by rw [s2.len]; simp
      obtain ⟨R, r1, r2, r3⟩ := ih R2 (D ++ S) b (b + 2 * (bs : Int)) N (by omega) (by simp; omega)
        (fun y hy => hP y (by
          rw [e]
          simp only [List.mem_append] at hy ⊢
          rcases hy with (h | h) | h
          · exact .inl h
          · have := s2.mem.1 h
            rw [List.mem_append] at this
            rcases this with h | h
            · exact .inr (.inl h)
            · exact .inr (.inr (.inl h))
          · exact .inr (.inr (.inr h)))) k2 (by simp; omega) (by simp; omega) (by simp; omega)
      refine ⟨S ++ R, Blk.cons (by omega) s1 r1, ?_, fun res hres => ?_⟩
      · have := Stab.app s2 r2
        rw [e]
        simpa using this
      · refine Ev.step (f := fun k => (sym z cmp k (D ++ rest) a (a + (bs : Int)) b).bind fun t => stC z cmp k t N (bs : Int) b (b + 2 * (bs : Int))) (fun k => ?_) (Ev.bind (a := (D ++ S) ++ R2) (f := fun k t => stC z cmp k t N (bs : Int) b (b + 2 * (bs : Int))) (by rw [e]; simpa using s3) (r3 res (by simpa using hres)))
        simp only [stC]
        rw [if_pos hl, wa, wy, show ((2 * bs : Nat) : Int) = 2 * (bs : Int) by omega, wrap_small (x := b + 2 * (bs : Int)) (by omega) (by omega)]
    · by_cases hm : a + (bs : Int) < N
      · obtain ⟨B1, R1, e1, l1, q1, k1⟩ := hB.more (by omega)
        have lr1 : rest.length = B1.length + R1.length := by rw [e1]; simp
        have q2 : Sorted lt R1 := k1.one (by omega)
        obtain ⟨S, s1, s2, s3⟩ := sym_run (z := z) ho hc (B1.length + R1.length) B1 R1 D [] a (a + (bs : Int)) N (Nat.le_refl _) (List.length_pos_iff.1 (by omega)) (List.length_pos_iff.1 (by omega)) (by simp; omega) (fun y hy => hP y (by rw [e1]; simpa using hy)) ha (by omega) (by omega) q1 q2
        have lS : S.length = B1.length + R1.length := by rw [s2.len]; simp
        refine ⟨S, Blk.last (by omega) s1, by rw [e1]; exact s2, fun res hres => ?_⟩
        refine Ev.step (f := fun k => (sym z cmp k (D ++ rest) a (a + (bs : Int)) N).bind fun t => stB z cmp k t N ((2 * bs : Nat) : Int)) (fun k => ?_) (Ev.bind (a := D ++ S) (f := fun k t => stB z cmp k t N ((2 * bs : Nat) : Int)) (by rw [e1]; simpa using s3) hres)
        simp only [stC]
        rw [if_neg hl, wa, if_pos hm, wx]
      · refine ⟨rest, Blk.last (by omega) (hB.one (by omega)), Stab.refl _, fun res hres => Ev.step (fun k => ?_) hres⟩
        simp only [stC]
        rw [if_neg hl, wa, if_neg hm, wx]

theorem stB_run : ∀ (n : Nat) (L : List α) (bs : Nat), L.length ≤ bs + n → 1 ≤ bs → L.length ≤ 100000000000000 → (∀ y, y ∈ L → P y) → Blk lt bs L → ∃ R, Sorted lt R ∧ Stab lt L R ∧ Ev (fun k => stB z cmp k L (L.length : Int) (bs : Int)) R := by
  intro n
  induction n with
  | zero =>
    intro L bs h1 h2 h3 hP h4
    refine ⟨L, h4.one (by omega), Stab.refl _, Ev.step (f := fun _ => some L) (fun k => ?_) (Ev.now _)⟩
    simp only [stB]
    rw [if_neg (by omega)]
  | succ n ih =>
    intro L bs h1 h2 h3 hP h4
    by_cases c : bs < L.length
    · obtain ⟨L', r1, r2, r3⟩ := stC_run (z := z) ho hc bs h2 (by omega) L.length L [] 0 (2 * (bs : Int)) (L.length : Int) (Nat.le_refl _) (by simpa using h3) (by simpa using hP) h4 rfl (by simp) (by simp)
      obtain ⟨R, t1, t2, t3⟩ := ih L' (2 * bs) (by rw [r2.len]; omega) (by omega) (by rw [r2.len]; exact h3) (fun y hy => hP y (r2.mem.1 hy)) r1
      refine ⟨R, t1, Stab.trans r2 t2, Ev.step (fun k => ?_) (r3 R (by rw [r2.len] at t3; simpa using t3))⟩
      simp only [stB]
      rw [if_pos (by omega), wrap_small (x := 2 * (bs : Int)) (by omega) (by omega)]
      simp
    · refine ⟨L, h4.one (by omega), Stab.refl _, Ev.step (f := fun _ => some L) (fun k => ?_) (Ev.now _)⟩
      simp only [stB]
      rw [if_neg (by omega)]

/-- The whole sort. -/
theorem stable_run (L : List α) (h : L.length ≤ 100000000000000) (hP : ∀ y, y ∈ L → P y) : ∃ R, Sorted lt R ∧ Stab lt L R ∧ Ev (fun k => stA z cmp k L (L.length : Int) 20 0 20) R := by
  obtain ⟨L', r1, r2, r3⟩ := stA_run (z := z) ho hc L.length L [] 0 20 (L.length : Int) (Nat.le_refl _) (by simpa using h) (by simpa using hP) rfl (by simp) (by simp)
  obtain ⟨R, t1, t2, t3⟩ := stB_run (z := z) ho hc L'.length L' 20 (by omega) (by omega) (by rw [r2.len]; exact h) (fun y hy => hP y (r2.mem.1 hy)) r1
  exact ⟨R, t1, Stab.trans r2 t2, by simpa using r3 R (by rw [r2.len] at t3; simpa using t3)⟩
end
end Go.Proofs.YtbcocpaeehgmnaaDoorW.Sort
