/- The printed functions of the stable sort are the general ones. -/
import Derived.Test.YtbcocpaeehgmnaaDoorSort
import Derived.Test.YtbcocpaeehgmnaaDoorZonex9
namespace Go.Proofs.YtbcocpaeehgmnaaDoor.Zone.T68
open Go.RowKit Go.Proofs.YtbcocpaeehgmnaaDoor.Zone Go.Proofs.YtbcocpaeehgmnaaDoorW.PrintWords Go.Proofs.YtbcocpaeehgmnaaDoorW.Sort

set_option linter.unusedVariables false

/-- The comparison, of whole elements. -/
def cmp : Nat → S68 → S68 → Option Int := fun k x y => zone_order.f k x.f0 x.f1 x.f2 x.f3 y.f0 y.f1 y.f2 y.f3

theorem ins_eq : ∀ k, (∀ x0 x1 x2 x8, api_ZoneRecord_95.l0 k x0 x1 x2 x8 = insA z68 cmp k x0 x1 x2 x8) ∧ (∀ x0 x1 x2 x8 x9, api_ZoneRecord_95.l1 k x0 x1 x2 x8 x9 = insB z68 cmp k x0 x1 x2 x8 x9)
  | 0 => ⟨fun _ _ _ _ => rfl, fun _ _ _ _ _ => rfl⟩
  | k + 1 => by
    obtain ⟨i0, i1⟩ := ins_eq k
    refine ⟨fun _ _ _ _ => ?_, fun _ _ _ _ _ => ?_⟩
    · simp only [api_ZoneRecord_95.l0, insA, i1]
    · simp only [api_ZoneRecord_95.l1, insB, i0, i1]
      rfl
theorem swp_eq : ∀ k x0 x1 x2 x3 x10, api_ZoneRecord_117.l0 k x0 x1 x2 x3 x10 = swp z68 k x0 x1 x2 x3 x10
  | 0 => fun _ _ _ _ _ => rfl
  | k + 1 => by
    intro x0 x1 x2 x3 x10
    simp only [api_ZoneRecord_117.l0, swp, swp_eq k]
    rfl
theorem rot_eq : ∀ k x0 x2 x10 x11, api_ZoneRecord_108.l0 k x0 x2 x10 x11 = rot z68 k x0 x2 x10 x11
  | 0 => fun _ _ _ _ => rfl
  | k + 1 => by
    intro x0 x2 x10 x11
    simp only [api_ZoneRecord_108.l0, rot, rot_eq k, api_ZoneRecord_117.f, swp_eq]
theorem sym_eq : ∀ k, (∀ x0 x1 x10 x11, api_ZoneRecord_96.l0 k x0 x1 x10 x11 = syA z68 cmp k x0 x1 x10 x11) ∧ (∀ x0 x10 x13, api_ZoneRecord_96.l1 k x0 x10 x13 = syB z68 cmp k x0 x10 x13) ∧ (∀ x0 x2 x14 x15, api_ZoneRecord_96.l2 k x0 x2 x14 x15 = syC z68 cmp k x0 x2 x14 x15) ∧ (∀ x0 x14 x17, api_ZoneRecord_96.l3 k x0 x14 x17 = syD z68 cmp k x0 x14 x17) ∧
    (∀ x0 x1 x2 x3 x18 x19 x20 x21, api_ZoneRecord_96.j4 k x0 x1 x2 x3 x18 x19 x20 x21 = syE z68 cmp k x0 x1 x2 x3 x18 x19 x20 x21) ∧ (∀ x0 x1 x2 x3 x18 x19 x20 x21 x22, api_ZoneRecord_96.l4 k x0 x1 x2 x3 x18 x19 x20 x21 x22 = syF z68 cmp k x0 x1 x2 x3 x18 x19 x20 x21 x22) ∧
    (∀ x0 x1 x2 x3 x18 x20 x24 f, api_ZoneRecord_96.j6 k x0 x1 x2 x3 x18 x20 x24 f = syG z68 cmp k x0 x1 x2 x3 x18 x20 x24 f) ∧ (∀ x0 x1 x3 x18 x20 x24, api_ZoneRecord_96.j7 k x0 x1 x3 x18 x20 x24 = syH z68 cmp k x0 x1 x3 x18 x20 x24) ∧ (∀ x0 x1 x3 x18 x20 x24 f, api_ZoneRecord_96.j8 k x0 x1 x3 x18 x20 x24 f = syI z68 cmp k x0 x1 x3 x18 x20 x24 f) ∧ (∀ x0 x1 x2 x3, api_ZoneRecord_96.f k x0 x1 x2 x3 = sym z68 cmp k x0 x1 x2 x3)
  | 0 => ⟨fun _ _ _ _ => rfl, fun _ _ _ => rfl, fun _ _ _ _ => rfl, fun _ _ _ => rfl, fun _ _ _ _ _ _ _ _ => rfl, fun _ _ _ _ _ _ _ _ _ => rfl, fun _ _ _ _ _ _ _ _ => rfl, fun _ _ _ _ _ _ => rfl, fun _ _ _ _ _ _ _ => rfl, fun _ _ _ _ => rfl⟩
  | k + 1 => by
    obtain ⟨i0, i1, i2, i3, i4, i5, i6, i7, i8, i9⟩ := sym_eq k
    refine ⟨fun _ _ _ _ => ?_, fun _ _ _ => ?_, fun _ _ _ _ => ?_, fun _ _ _ => ?_, fun _ _ _ _ _ _ _ _ => ?_, fun _ _ _ _ _ _ _ _ _ => ?_, fun _ _ _ _ _ _ _ _ => ?_, fun _ _ _ _ _ _ => ?_, fun _ _ _ _ _ _ _ => ?_, fun _ _ _ _ => ?_⟩
    · simp only [api_ZoneRecord_96.l0, syA, i0, i1]
      rfl
    · simp only [api_ZoneRecord_96.l1, syB, i1]
      rfl
    · simp only [api_ZoneRecord_96.l2, syC, i2, i3]
      rfl
    · simp only [api_ZoneRecord_96.l3, syD, i3]
      rfl
    · simp only [api_ZoneRecord_96.j4, syE, i5]
    · simp only [api_ZoneRecord_96.l4, syF, i5, i6]
      rfl
    · simp only [api_ZoneRecord_96.j6, syG, i7, api_ZoneRecord_108.f, rot_eq]
    · simp only [api_ZoneRecord_96.j7, syH, i8]
    · simp only [api_ZoneRecord_96.j8, syI, i9]
    · simp only [api_ZoneRecord_96.f, sym, i0, i2, i4, half]
      rfl
theorem st_eq : ∀ k, (∀ x0 x1 x6 x7 x8, api_ZoneRecord_78.l0 k x0 x1 x6 x7 x8 = stA z68 cmp k x0 x1 x6 x7 x8) ∧ (∀ x0 x1 x6, api_ZoneRecord_78.l1 k x0 x1 x6 = stB z68 cmp k x0 x1 x6) ∧ (∀ x0 x1 x6 x7 x8, api_ZoneRecord_78.l2 k x0 x1 x6 x7 x8 = stC z68 cmp k x0 x1 x6 x7 x8)
  | 0 => ⟨fun _ _ _ _ _ => rfl, fun _ _ _ => rfl, fun _ _ _ _ _ => rfl⟩
  | k + 1 => by
    obtain ⟨i0, i1, i2⟩ := st_eq k
    refine ⟨fun _ _ _ _ _ => ?_, fun _ _ _ => ?_, fun _ _ _ _ _ => ?_⟩
    · simp only [api_ZoneRecord_78.l0, stA, i0, i1, api_ZoneRecord_95.f, (ins_eq _).1]
    · simp only [api_ZoneRecord_78.l1, stB, i2]
    · simp only [api_ZoneRecord_78.l2, stC, i1, i2, (sym_eq _).2.2.2.2.2.2.2.2.2]

/-- The sort. -/
theorem sorts {lt : S68 → S68 → Bool} {P : S68 → Prop} (ho : Ord_ lt) (hc : Tells lt cmp P) (L : List S68) (h : L.length ≤ 100000000000000) (hP : ∀ y, y ∈ L → P y) : ∃ R, Sorted lt R ∧ Stab lt L R ∧ Ev (fun k => api_ZoneRecord_63.f k L) R := by
  obtain ⟨R, h1, h2, h3⟩ := stable_run (z := z68) ho hc L h hP
  refine ⟨R, h1, h2, Ev.congr (fun k => ?_) h3⟩
  simp only [api_ZoneRecord_63.f, api_ZoneRecord_78.f, (st_eq _).1]
  cases stA z68 cmp k L (L.length : Int) 20 0 20 <;> rfl
end Go.Proofs.YtbcocpaeehgmnaaDoor.Zone.T68
