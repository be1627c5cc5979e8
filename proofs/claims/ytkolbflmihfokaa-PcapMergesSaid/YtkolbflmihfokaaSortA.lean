/- Go's stable sort (blocks by insertion, then merges by rotation), over any elements: it returns the elements in order, equal ones as they stood. No condition but that the comparison is an order on the elements. -/
import Derived.Test.YtkolbflmihfokaaWWords
namespace Go.Proofs.YtkolbflmihfokaaW.Sort
open Go.RowKit Go.Proofs.YtkolbflmihfokaaW.PrintWords

/-! ### what is sorted -/
section
variable {α : Type} (lt : α → α → Bool)

/-- An order: what is not before and not behind is equal. -/
structure Ord_ : Prop where
  asymm : ∀ {x y}, lt x y = true → lt y x = false
  ntr : ∀ {x y w}, lt x y = false → lt y w = false → lt x w = false

def Sorted (L : List α) : Prop := L.Pairwise (fun x y => lt y x = false)
def eqv (x y : α) : Bool := !lt x y && !lt y x
/-- The same elements, equal ones in the same order. -/
def Stab (L R : List α) : Prop := L.Perm R ∧ ∀ x, L.filter (eqv lt x) = R.filter (eqv lt x)
end

section
variable {α : Type} {lt : α → α → Bool} (ho : Ord_ lt)

theorem Stab.refl (L : List α) : Stab lt L L := ⟨List.Perm.refl _, fun _ => rfl⟩
theorem Stab.trans {L M R : List α} (h : Stab lt L M) (h' : Stab lt M R) : Stab lt L R := ⟨h.1.trans h'.1, fun x => (h.2 x).trans (h'.2 x)⟩
theorem Stab.symm {L M : List α} (h : Stab lt L M) : Stab lt M L := ⟨h.1.symm, fun x => (h.2 x).symm⟩
theorem Stab.app {L R L' R' : List α} (h : Stab lt L R) (h' : Stab lt L' R') : Stab lt (L ++ L') (R ++ R') :=
  ⟨h.1.append h'.1, fun x => by rw [List.filter_append, List.filter_append, h.2, h'.2]⟩
theorem Stab.len {L R : List α} (h : Stab lt L R) : R.length = L.length := h.1.length_eq.symm
theorem Stab.mem {L R : List α} (h : Stab lt L R) {x : α} : x ∈ R ↔ x ∈ L := h.1.mem_iff.symm
include ho in
theorem eqv_not {x y w : α} (h : lt y x = true) (hx : eqv lt w x = true) (hy : eqv lt w y = true) : False := by
  simp only [eqv, Bool.and_eq_true, Bool.not_eq_true'] at hx hy
  have := ho.ntr hy.2 hx.1
  rw [h] at this
  cases this
include ho in
theorem Stab.rot {U V : List α} (h : ∀ x, x ∈ U → ∀ y, y ∈ V → lt y x = true) : Stab lt (U ++ V) (V ++ U) := by
  refine ⟨List.perm_append_comm, fun w => ?_⟩
  rw [List.filter_append, List.filter_append]
  by_cases hu : U.filter (eqv lt w) = []
  · rw [hu]; simp
  · have hv : V.filter (eqv lt w) = [] := by
      rw [List.filter_eq_nil_iff]
      intro y hy hw
      obtain ⟨x, hx⟩ := List.exists_mem_of_ne_nil _ hu
      rw [List.mem_filter] at hx
      exact eqv_not ho (h x hx.1 y hy) hx.2 hw
    rw [hv]; simp
theorem Sorted.app {L R : List α} (h : Sorted lt L) (h' : Sorted lt R) (hh : ∀ x, x ∈ L → ∀ y, y ∈ R → lt y x = false) : Sorted lt (L ++ R) :=
  List.pairwise_append.2 ⟨h, h', hh⟩
theorem Sorted.left {L R : List α} (h : Sorted lt (L ++ R)) : Sorted lt L := (List.pairwise_append.1 h).1
theorem Sorted.right {L R : List α} (h : Sorted lt (L ++ R)) : Sorted lt R := (List.pairwise_append.1 h).2.1
theorem Sorted.between {L R : List α} (h : Sorted lt (L ++ R)) {x y : α} (hx : x ∈ L) (hy : y ∈ R) : lt y x = false := (List.pairwise_append.1 h).2.2 x hx y hy
theorem Sorted.nil : Sorted lt [] := List.Pairwise.nil
theorem Sorted.one (x : α) : Sorted lt [x] := List.pairwise_singleton _ _
theorem Sorted.cons {x : α} {L : List α} (h : Sorted lt L) (hh : ∀ y, y ∈ L → lt y x = false) : Sorted lt (x :: L) := List.Pairwise.cons hh h
theorem Sorted.tail {x : α} {L : List α} (h : Sorted lt (x :: L)) : Sorted lt L := (List.pairwise_cons.1 h).2
theorem Sorted.head {x : α} {L : List α} (h : Sorted lt (x :: L)) {y : α} (hy : y ∈ L) : lt y x = false := (List.pairwise_cons.1 h).1 y hy

include ho in
theorem irr (x : α) : lt x x = false := by
  cases h : lt x x with
  | false => rfl
  | true => exact (ho.asymm h).symm.trans h |>.symm ▸ rfl

include ho in
/-- Two sorted lists with the same elements, equal ones in the same order, are one. -/
theorem sorted_unique : ∀ {L R : List α}, Sorted lt L → Sorted lt R → Stab lt L R → L = R := by
  intro L
  induction L with
  | nil => intro R _ _ h; exact (List.Perm.nil_eq h.1)
  | cons x L ih =>
    intro R hL hR h
    cases R with
    | nil => exact absurd h.1.length_eq (by simp)
    | cons y R =>
      have hx : x = y ∨ x ∈ R := by simpa using (h.mem.2 (List.mem_cons_self) : x ∈ y :: R)
      have hy : y = x ∨ y ∈ L := by simpa using (h.mem.1 (List.mem_cons_self) : y ∈ x :: L)
      have a1 : lt x y = false := by rcases hx with rfl | hx; exact irr ho _; exact hR.head hx
      have a2 : lt y x = false := by rcases hy with rfl | hy; exact irr ho _; exact hL.head hy
      have e1 : eqv lt x x = true := by simp [eqv, irr ho]
      have e2 : eqv lt x y = true := by simp [eqv, a1, a2]
      have hf := h.2 x
      rw [List.filter_cons_of_pos e1, List.filter_cons_of_pos e2] at hf
      injection hf with hxy hf
      subst hxy
      refine congrArg _ (ih hL.tail hR.tail ⟨(List.perm_cons _).1 h.1, fun w => ?_⟩)
      have hw := h.2 w
      by_cases hc : eqv lt w x = true
      · rw [List.filter_cons_of_pos hc, List.filter_cons_of_pos hc] at hw
        injection hw
      · rw [List.filter_cons_of_neg hc, List.filter_cons_of_neg hc] at hw
        exact hw
end

/-! ### Go's functions -/
section
variable {α : Type} (z : α) (cmp : Nat → α → α → Option Int)
def rd (xs : List α) (i : Int) : α := xs.getD i.toNat z

mutual
def insA : Nat → List α → Int → Int → Int → Option (List α)
  | 0, _, _, _, _ => none
  | k + 1, x0, x1, x2, x8 => if x8 < x2 then insB k x0 x1 x2 x8 x8 else some x0
def insB : Nat → List α → Int → Int → Int → Int → Option (List α)
  | 0, _, _, _, _, _ => none
  | k + 1, x0, x1, x2, x8, x9 => if x9 > x1 then (if 0 ≤ x9 then (if x9 < (x0.length : Int) then (if 0 ≤ wrap64 (x9 - 1) then (if wrap64 (x9 - 1) < (x0.length : Int) then ((cmp k (rd z x0 x9) (rd z x0 (wrap64 (x9 - 1)))).bind fun t => (if t < 0 then insB k ((x0.set x9.toNat (rd z x0 (wrap64 (x9 - 1)))).set (wrap64 (x9 - 1)).toNat (rd z x0 x9)) x1 x2 x8 (wrap64 (x9 - 1)) else insA k x0 x1 x2 (wrap64 (x8 + 1)))) else none) else none) else none) else none) else insA k x0 x1 x2 (wrap64 (x8 + 1))
end
def swp : Nat → List α → Int → Int → Int → Int → Option (List α)
  | 0, _, _, _, _, _ => none
  | k + 1, x0, x1, x2, x3, x10 => if x10 < x3 then (if 0 ≤ wrap64 (x2 + x10) then (if wrap64 (x2 + x10) < (x0.length : Int) then (if 0 ≤ wrap64 (x1 + x10) then (if wrap64 (x1 + x10) < (x0.length : Int) then swp k ((x0.set (wrap64 (x1 + x10)).toNat (rd z x0 (wrap64 (x2 + x10)))).set (wrap64 (x2 + x10)).toNat (rd z x0 (wrap64 (x1 + x10)))) x1 x2 x3 (wrap64 (x10 + 1)) else none) else none) else none) else none) else some x0
def rot : Nat → List α → Int → Int → Int → Option (List α)
  | 0, _, _, _, _ => none
  | k + 1, x0, x2, x10, x11 => if x10 = x11 then ((swp z k x0 (wrap64 (x2 - x10)) x2 x10 0).bind fun t => some t) else (if x10 > x11 then ((swp z k x0 (wrap64 (x2 - x10)) x2 x11 0).bind fun t => rot k t x2 (wrap64 (x10 - x11)) x11) else ((swp z k x0 (wrap64 (x2 - x10)) (wrap64 ((wrap64 (x2 + x11)) - x10)) x10 0).bind fun t => rot k t x2 x10 (wrap64 (x11 - x10))))
def half (x y : Int) : Int := wrap64 ((IntKind.u64.wrap (wrap64 (x + y))) / 2)
mutual
def syA : Nat → List α → Int → Int → Int → Option (List α)
  | 0, _, _, _, _ => none
  | k + 1, x0, x1, x10, x11 => if x10 < x11 then (if 0 ≤ half x10 x11 then (if half x10 x11 < (x0.length : Int) then (if 0 ≤ x1 then (if x1 < (x0.length : Int) then ((cmp k (rd z x0 (half x10 x11)) (rd z x0 x1)).bind fun t => (if t < 0 then syA k x0 x1 (wrap64 (half x10 x11 + 1)) x11 else syA k x0 x1 x10 (half x10 x11))) else none) else none) else none) else none) else syB k x0 x10 x1
def syB : Nat → List α → Int → Int → Option (List α)
  | 0, _, _, _ => none
  | k + 1, x0, x10, x13 => if x13 < wrap64 (x10 - 1) then (if 0 ≤ wrap64 (x13 + 1) then (if wrap64 (x13 + 1) < (x0.length : Int) then (if 0 ≤ x13 then (if x13 < (x0.length : Int) then syB k ((x0.set x13.toNat (rd z x0 (wrap64 (x13 + 1)))).set (wrap64 (x13 + 1)).toNat (rd z x0 x13)) x10 (wrap64 (x13 + 1)) else none) else none) else none) else none) else some x0
def syC : Nat → List α → Int → Int → Int → Option (List α)
  | 0, _, _, _, _ => none
  | k + 1, x0, x2, x14, x15 => if x14 < x15 then (if 0 ≤ x2 then (if x2 < (x0.length : Int) then (if 0 ≤ half x14 x15 then (if half x14 x15 < (x0.length : Int) then ((cmp k (rd z x0 x2) (rd z x0 (half x14 x15))).bind fun t => (if t < 0 then syC k x0 x2 x14 (half x14 x15) else syC k x0 x2 (wrap64 (half x14 x15 + 1)) x15)) else none) else none) else none) else none) else syD k x0 x14 x2
def syD : Nat → List α → Int → Int → Option (List α)
  | 0, _, _, _ => none
  | k + 1, x0, x14, x17 => if x17 > x14 then (if 0 ≤ wrap64 (x17 - 1) then (if wrap64 (x17 - 1) < (x0.length : Int) then (if 0 ≤ x17 then (if x17 < (x0.length : Int) then syD k ((x0.set x17.toNat (rd z x0 (wrap64 (x17 - 1)))).set (wrap64 (x17 - 1)).toNat (rd z x0 x17)) x14 (wrap64 (x17 - 1)) else none) else none) else none) else none) else some x0
def syE : Nat → List α → Int → Int → Int → Int → Int → Int → Int → Option (List α)
  | 0, _, _, _, _, _, _, _, _ => none
  | k + 1, x0, x1, x2, x3, x18, x19, x20, x21 => syF k x0 x1 x2 x3 x18 x19 x20 x21 (wrap64 (x19 - 1))
def syF : Nat → List α → Int → Int → Int → Int → Int → Int → Int → Int → Option (List α)
  | 0, _, _, _, _, _, _, _, _, _ => none
  | k + 1, x0, x1, x2, x3, x18, x19, x20, x21, x22 => if x20 < x21 then (if 0 ≤ wrap64 (x22 - half x20 x21) then (if wrap64 (x22 - half x20 x21) < (x0.length : Int) then (if 0 ≤ half x20 x21 then (if half x20 x21 < (x0.length : Int) then ((cmp k (rd z x0 (wrap64 (x22 - half x20 x21))) (rd z x0 (half x20 x21))).bind fun t => (if t < 0 then syF k x0 x1 x2 x3 x18 x19 x20 (half x20 x21) x22 else syF k x0 x1 x2 x3 x18 x19 (wrap64 (half x20 x21 + 1)) x21 x22)) else none) else none) else none) else none) else (if x20 < x2 then syG k x0 x1 x2 x3 x18 x20 (wrap64 (x19 - x20)) (decide (x2 < wrap64 (x19 - x20))) else syG k x0 x1 x2 x3 x18 x20 (wrap64 (x19 - x20)) false)
def syG : Nat → List α → Int → Int → Int → Int → Int → Int → Bool → Option (List α)
  | 0, _, _, _, _, _, _, _, _ => none
  | k + 1, x0, x1, x2, x3, x18, x20, x24, x185 => if x185 = true then ((rot z k x0 x2 (wrap64 (x2 - x20)) (wrap64 (x24 - x2))).bind fun t => syH k t x1 x3 x18 x20 x24) else syH k x0 x1 x3 x18 x20 x24
def syH : Nat → List α → Int → Int → Int → Int → Int → Option (List α)
  | 0, _, _, _, _, _, _ => none
  | k + 1, x0, x1, x3, x18, x20, x24 => if x1 < x20 then syI k x0 x1 x3 x18 x20 x24 (decide (x20 < x18)) else syI k x0 x1 x3 x18 x20 x24 false
def syI : Nat → List α → Int → Int → Int → Int → Int → Bool → Option (List α)
  | 0, _, _, _, _, _, _, _ => none
  | k + 1, x0, x1, x3, x18, x20, x24, x199 => if x199 = true then ((sym k x0 x1 x20 x18).bind fun t => (if x18 < x24 then (if x24 < x3 then ((sym k t x18 x24 x3).bind fun t' => some t') else some t) else some t)) else (if x18 < x24 then (if x24 < x3 then ((sym k x0 x18 x24 x3).bind fun t => some t) else some x0) else some x0)
def sym : Nat → List α → Int → Int → Int → Option (List α)
  | 0, _, _, _, _ => none
  | k + 1, l0, a1, a2, a3 => if wrap64 (a2 - a1) = 1 then syA k l0 a1 a2 a3 else (if wrap64 (a3 - a2) = 1 then syC k l0 a2 a1 a2 else (if a2 > half a1 a3 then syE k l0 a1 a2 a3 (half a1 a3) (wrap64 (half a1 a3 + a2)) (wrap64 (wrap64 (half a1 a3 + a2) - a3)) (half a1 a3) else syE k l0 a1 a2 a3 (half a1 a3) (wrap64 (half a1 a3 + a2)) a1 a2))
end
mutual
def stA : Nat → List α → Int → Int → Int → Int → Option (List α)
  | 0, _, _, _, _, _ => none
  | k + 1, x0, x1, x6, x7, x8 => if x8 ≤ x1 then ((insA z cmp k x0 x7 x8 (wrap64 (x7 + 1))).bind fun t => stA k t x1 x6 x8 (wrap64 (x8 + x6))) else ((insA z cmp k x0 x7 x1 (wrap64 (x7 + 1))).bind fun t => stB k t x1 x6)
def stB : Nat → List α → Int → Int → Option (List α)
  | 0, _, _, _ => none
  | k + 1, x0, x1, x6 => if x6 < x1 then stC k x0 x1 x6 0 (wrap64 (2 * x6)) else some x0
def stC : Nat → List α → Int → Int → Int → Int → Option (List α)
  | 0, _, _, _, _, _ => none
  | k + 1, x0, x1, x6, x7, x8 => if x8 ≤ x1 then ((sym z cmp k x0 x7 (wrap64 (x7 + x6)) x8).bind fun t => stC k t x1 x6 x8 (wrap64 (x8 + wrap64 (2 * x6)))) else (if wrap64 (x7 + x6) < x1 then ((sym z cmp k x0 x7 (wrap64 (x7 + x6)) x1).bind fun t => stB k t x1 (wrap64 (x6 * 2))) else stB k x0 x1 (wrap64 (x6 * 2)))
end
end
end Go.Proofs.YtkolbflmihfokaaW.Sort
