/- Printed by a program of this seat's session: what the Go functions compute, and that they do. -/
import Derived.Test.YtbcocpaeehgmnaaDoorLabelx0
import Derived.Test.YtbcocpaeehgmnaaDoorLabelx3
import Derived.Test.YtbcocpaeehgmnaaDoorLabelx5
namespace Go.Proofs.YtbcocpaeehgmnaaDoor.Label
open Go.RowKit Go.Proofs.YtbcocpaeehgmnaaDoorW.PrintWords Go.Proofs.YtbcocpaeehgmnaaDoorW.PrintLast Go.Proofs.YtbcocpaeehgmnaaDoorW.PrintMore
attribute [local go_sem] max2_int min2_int max_two min_two max_three min_three max_four min_four   -- for this text's walks alone
set_option linter.unusedVariables false
set_option linter.unusedSimpArgs false
set_option maxRecDepth 100000

/-! ### patchbayref4_NameOf: function 20 -/
def patchbayref4_NameOf.l0 : Nat → ByteArray → List ByteArray → Int → Int → Option (ByteArray)
  | 0, _, _, _, _ => none
  | k + 1, x3, x9, x10, x11 => if x11 < x10 then (if 0 ≤ x11 then (if x11 < (x9.length : Int) then (if (rdOf ByteArray.empty x9 x11).size + 1 ≤ 9223372036854775807 then (if x3.size + ((rdOf ByteArray.empty x9 x11) ++ (⟨#[46]⟩ : ByteArray)).size ≤ 9223372036854775807 then (patchbayref4_NameOf.l0 k (x3 ++ ((rdOf ByteArray.empty x9 x11) ++ (⟨#[46]⟩ : ByteArray))) x9 x10 (wrap64 (x11 + 1))) else (none)) else (none)) else (none)) else (none)) else (some x3)
def patchbayref4_NameOf.f (k : Nat) (l0 : List ByteArray) : Option (ByteArray) := if (l0.length : Int) = 0 then (some (⟨#[46]⟩ : ByteArray)) else (patchbayref4_NameOf.l0 k (⟨#[]⟩ : ByteArray) l0 (l0.length : Int) 0)
theorem patchbayref4_NameOf.mono_l : ∀ k, (∀ y0 y1 y2 y3, LeO (patchbayref4_NameOf.l0 k y0 y1 y2 y3) (patchbayref4_NameOf.l0 (k + 1) y0 y1 y2 y3))
  | 0 => fun _ _ _ _ r h => by simp [patchbayref4_NameOf.l0] at h
  | k + 1 => by
    have ih0 := patchbayref4_NameOf.mono_l k
    · intro y0 y1 y2 y3
      unfold patchbayref4_NameOf.l0
      repeat' first
      | (with_reducible exact ih0 _ _ _ _)
      | (with_reducible exact LeO.refl _)
      | (with_reducible exact LeO.none _)
      | (with_reducible refine LeO.ite ?_ ?_)
      | (with_reducible refine LeO.bind ?_ (fun _ => ?_))
      | exact ih0 _ _ _ _
      | exact LeO.none _
      | refine LeO.ite ?_ ?_
      | refine LeO.bind ?_ (fun _ => ?_)
theorem patchbayref4_NameOf.mono : ∀ a0 k, LeO (patchbayref4_NameOf.f k a0) (patchbayref4_NameOf.f (k + 1) a0) := by
  intro a0 k
  have ih0 := patchbayref4_NameOf.mono_l k
  unfold patchbayref4_NameOf.f
  repeat' first
      | (with_reducible exact ih0 _ _ _ _)
      | (with_reducible exact LeO.refl _)
      | (with_reducible exact LeO.none _)
      | (with_reducible refine LeO.ite ?_ ?_)
      | (with_reducible refine LeO.bind ?_ (fun _ => ?_))
      | exact ih0 _ _ _ _
      | exact LeO.none _
      | refine LeO.ite ?_ ?_
      | refine LeO.bind ?_ (fun _ => ?_)
set_option maxHeartbeats 8000000 in
set_option maxRecDepth 100000 in
theorem patchbayref4_NameOf.calls (k : Nat) (A0 : Option Addr) (c0 : Nat) (l0 : List ByteArray) (r : ByteArray) (w : World) (hr0 : Kd.C Kd.string w A0 l0.length l0) (hc0 : l0.length ≤ c0) (h : patchbayref4_NameOf.f k l0 = some r) :
    Calls Tryd.prog 20 #[.slice A0 l0.length c0] w fun e w' => e = .returned (.string r) ∧ Drawn0 w w' := by
  have HR0 := Aside0.mk hr0
  have HC0 := Aside0.mk hc0
  clear hr0 hc0
  have H : (if (l0.length : Int) = 0 then (some (⟨#[46]⟩ : ByteArray)) else (patchbayref4_NameOf.l0 k (⟨#[]⟩ : ByteArray) l0 (l0.length : Int) 0)) = some r := h
  clear h
  by_cases c2 : (l0.length : Int) = 0
  · rw [if_pos c2] at H
    have c2b0 : ((l0.length : Int) == 0) = true := beq_iff_eq.mpr c2
    have c2b1 : ((l0.length : Int) != 0) = false := bne_eq_false_iff_eq.mpr c2
    clear c2
    obtain rfl := Option.some.inj H
    go_enter Tryd.func20, Tryd.ntmps20
    go_wp2
    go_ret
    exact ⟨by first | rfl | (simp; done) | (simp [*]; done), by repeat (first | exact Drawn0.refl _ | apply Drawn0.step)⟩
  · rw [if_neg c2] at H
    have c2b0 : ((l0.length : Int) == 0) = false := beq_eq_false_iff_ne.mpr c2
    have c2b1 : ((l0.length : Int) != 0) = true := bne_iff_ne.mpr c2
    have c2b2 : ¬ (l0 = []) := fun h_ => c2 (by rw [h_]; rfl)
    have H' := Aside0.mk H
    clear H
    go_enter Tryd.func20, Tryd.ntmps20
    go_wp2
    go_loopg [3, 11] k (fun kq v3 v11 w' => ∃ (x3_1 : ByteArray) (x11_1 : Int), v3 = .string x3_1 ∧ v11 = .int .i64 x11_1 ∧ Aside0 (patchbayref4_NameOf.l0 kq x3_1 l0 (l0.length : Int) x11_1 = some r) ∧ Aside0 (kq ≤ k) ∧ Drawn0 w w')
    case atStart => exact ⟨((⟨#[]⟩ : ByteArray)), (0), (by first | rfl | (simp; done) | (simp [*]; done)), (by first | rfl | (simp; done) | (simp [*]; done)), H', ⟨Nat.le_refl _⟩, by repeat (first | exact Drawn0.refl _ | apply Drawn0.step)⟩
    case round =>
      clear H'
      try clear c2
      try clear c2b0
      try clear c2b1
      try clear c2b2
      try clear p2
      obtain ⟨x3_1, x11_1, rfl, rfl, HA, HK1, ⟨m1, rfl⟩⟩ := hrel
      cases gk with
      | zero => exact absurd HA.out (by simp [patchbayref4_NameOf.l0])
      | succ k1 =>
        have H := HA.out
        clear HA
        simp only [patchbayref4_NameOf.l0] at H
        by_cases c3 : x11_1 < (l0.length : Int)
        · rw [if_pos c3] at H
          have c3b0 : decide (x11_1 < (l0.length : Int)) = true := decide_eq_true c3
          clear c3
          by_cases c4 : 0 ≤ x11_1
          · rw [if_pos c4] at H
            have c4b0 : decide (0 ≤ x11_1) = true := decide_eq_true c4
            clear c4
            by_cases c5 : x11_1 < (l0.length : Int)
            · rw [if_pos c5] at H
              have c5b0 : decide (x11_1 < (l0.length : Int)) = true := decide_eq_true c5
              clear c5
              by_cases c6 : (rdOf ByteArray.empty l0 x11_1).size + 1 ≤ 9223372036854775807
              · rw [if_pos c6] at H
                have c6b0 := eq_true c6
                have c6b1 : decide ((rdOf ByteArray.empty l0 x11_1).size + 1 ≤ 9223372036854775807) = true := decide_eq_true c6
                try have c6b2 : (9223372036854775807 < (rdOf ByteArray.empty l0 x11_1).size + 1) = False := eq_false (Nat.not_lt.2 c6)
                by_cases c7 : x3_1.size + ((rdOf ByteArray.empty l0 x11_1) ++ (⟨#[46]⟩ : ByteArray)).size ≤ 9223372036854775807
                · rw [if_pos c7] at H
                  have c7b0 := eq_true c7
                  have c7b1 : decide (x3_1.size + ((rdOf ByteArray.empty l0 x11_1) ++ (⟨#[46]⟩ : ByteArray)).size ≤ 9223372036854775807) = true := decide_eq_true c7
                  try have c7b2 : (9223372036854775807 < x3_1.size + ((rdOf ByteArray.empty l0 x11_1) ++ (⟨#[46]⟩ : ByteArray)).size) = False := eq_false (Nat.not_lt.2 c7)
                  try (have c7b3 := c7b2; simp only [ByteArray.size_append] at c7b3)
                  have H' := Aside0.mk H
                  clear H
                  have p231 : 0 ≤ (x11_1 : Int) := of_decide_eq_true (by first | (with_reducible assumption) | assumption)
                  have q231 : x11_1 < (l0.length : Int) := of_decide_eq_true (by first | (with_reducible assumption) | assumption)
                  obtain ⟨ad231, e231, hx231_0⟩ := Kd.at_string HR0.out x11_1 p231 q231
                  cases e231
                  replace p231 := eq_true p231
                  replace q231 := eq_true q231
                  go_wp2
                  go_roundg k1
                  case measure => have := HK1.out; omega
                  case rel => exact ⟨(x3_1 ++ ((rdOf ByteArray.empty l0 x11_1) ++ (⟨#[46]⟩ : ByteArray))), (wrap64 (x11_1 + 1)), (by first | rfl | (simp; done) | (simp [*]; done)), (by first | rfl | (simp; done) | (simp [*]; done)), H', ⟨by have := HK1.out; omega⟩, by repeat (first | exact Drawn0.refl _ | apply Drawn0.step)⟩
                · rw [if_neg c7] at H
                  exact absurd H (by simp)
              · rw [if_neg c6] at H
                exact absurd H (by simp)
            · rw [if_neg c5] at H
              exact absurd H (by simp)
          · rw [if_neg c4] at H
            exact absurd H (by simp)
        · rw [if_neg c3] at H
          have c3b0 : decide (x11_1 < (l0.length : Int)) = false := decide_eq_false c3
          clear c3
          obtain rfl := Option.some.inj H
          go_wp2
          go_ret
          exact ⟨by first | rfl | (simp; done) | (simp [*]; done), by repeat (first | exact Drawn0.refl _ | apply Drawn0.step)⟩

/-! ### patchbaylaw4_LabelParents: function 6 -/
def patchbaylaw4_LabelParents.j0 : Nat → ByteArray → Int → List ByteArray → Int → Bool → Option (Bool)
  | 0, _, _, _, _, _ => none
  | k + 1, x5, x6, x7, x8, x31 => if x31 = true then (if 4 = 0 then (if x6 = 0 then (if 1 ≤ (x7.length : Int) then ((patchbayref4_NameOf.f k (x7.drop 1)).bind fun t244 => (some (x5.toList == t244.toList))) else (none)) else (some false)) else (if x6 = 4 then (some (x5.toList == ([] : List UInt8))) else (some false))) else (if x8 = 0 then (if x6 = 0 then (if 1 ≤ (x7.length : Int) then ((patchbayref4_NameOf.f k (x7.drop 1)).bind fun t249 => (some (x5.toList == t249.toList))) else (none)) else (some false)) else (if x6 = x8 then (some (x5.toList == ([] : List UInt8))) else (some false)))
def patchbaylaw4_LabelParents.f (k : Nat) (a0 : ByteArray) : Option (Bool) := (label_Parent.f k (⟨#[46]⟩ : ByteArray)).bind fun bt232 => (if bt232.2 = 4 then ((label_Parent.f k a0).bind fun bt234 => ((patchbayref4_LabelsOf.f k a0).bind fun bt236 => (if bt236.2 = 0 then (patchbaylaw4_LabelParents.j0 k bt234.1 bt234.2 bt236.1 bt236.2 ((bt236.1.length : Int) == 0)) else (patchbaylaw4_LabelParents.j0 k bt234.1 bt234.2 bt236.1 bt236.2 false)))) else (some false))
theorem patchbaylaw4_LabelParents.mono_l : ∀ k, (∀ y0 y1 y2 y3 y4, LeO (patchbaylaw4_LabelParents.j0 k y0 y1 y2 y3 y4) (patchbaylaw4_LabelParents.j0 (k + 1) y0 y1 y2 y3 y4))
  | 0 => fun _ _ _ _ _ r h => by simp [patchbaylaw4_LabelParents.j0] at h
  | k + 1 => by
    have ih0 := patchbaylaw4_LabelParents.mono_l k
    · intro y0 y1 y2 y3 y4
      unfold patchbaylaw4_LabelParents.j0
      repeat' first
      | (with_reducible exact ih0 _ _ _ _ _)
      | (with_reducible exact label_Parent.mono _ _)
      | (with_reducible exact patchbayref4_LabelsOf.mono _ _)
      | (with_reducible exact patchbayref4_NameOf.mono _ _)
      | (with_reducible exact LeO.refl _)
      | (with_reducible exact LeO.none _)
      | (with_reducible refine LeO.ite ?_ ?_)
      | (with_reducible refine LeO.bind ?_ (fun _ => ?_))
      | exact ih0 _ _ _ _ _
      | exact label_Parent.mono _ _
      | exact patchbayref4_LabelsOf.mono _ _
      | exact patchbayref4_NameOf.mono _ _
      | exact LeO.none _
      | refine LeO.ite ?_ ?_
      | refine LeO.bind ?_ (fun _ => ?_)
theorem patchbaylaw4_LabelParents.mono : ∀ a0 k, LeO (patchbaylaw4_LabelParents.f k a0) (patchbaylaw4_LabelParents.f (k + 1) a0) := by
  intro a0 k
  have ih0 := patchbaylaw4_LabelParents.mono_l k
  unfold patchbaylaw4_LabelParents.f
  repeat' first
      | (with_reducible exact ih0 _ _ _ _ _)
      | (with_reducible exact label_Parent.mono _ _)
      | (with_reducible exact patchbayref4_LabelsOf.mono _ _)
      | (with_reducible exact patchbayref4_NameOf.mono _ _)
      | (with_reducible exact LeO.refl _)
      | (with_reducible exact LeO.none _)
      | (with_reducible refine LeO.ite ?_ ?_)
      | (with_reducible refine LeO.bind ?_ (fun _ => ?_))
      | exact ih0 _ _ _ _ _
      | exact label_Parent.mono _ _
      | exact patchbayref4_LabelsOf.mono _ _
      | exact patchbayref4_NameOf.mono _ _
      | exact LeO.none _
      | refine LeO.ite ?_ ?_
      | refine LeO.bind ?_ (fun _ => ?_)
set_option maxHeartbeats 8000000 in
set_option maxRecDepth 100000 in
theorem patchbaylaw4_LabelParents.calls (k : Nat) (a0 : ByteArray) (r : Bool) (w : World) (h : patchbaylaw4_LabelParents.f k a0 = some r) :
    Calls Tryd.prog 6 #[.string a0] w fun e w' => e = .returned (.bool r) ∧ Below w.heap.size w w' := by
  have HB := Aside0.mk (Below.refl w.heap.size w)
  have H : ((label_Parent.f k (⟨#[46]⟩ : ByteArray)).bind fun bt232 => (if bt232.2 = 4 then ((label_Parent.f k a0).bind fun bt234 => ((patchbayref4_LabelsOf.f k a0).bind fun bt236 => (if bt236.2 = 0 then (patchbaylaw4_LabelParents.j0 k bt234.1 bt234.2 bt236.1 bt236.2 ((bt236.1.length : Int) == 0)) else (patchbaylaw4_LabelParents.j0 k bt234.1 bt234.2 bt236.1 bt236.2 false)))) else (some false))) = some r := h
  clear h
  replace H := Option.bind_eq_some_iff.mp H
  obtain ⟨⟨t232, t233⟩, A20, H⟩ := H
  replace H : (if t233 = 4 then ((label_Parent.f k a0).bind fun bt234 => ((patchbayref4_LabelsOf.f k a0).bind fun bt236 => (if bt236.2 = 0 then (patchbaylaw4_LabelParents.j0 k bt234.1 bt234.2 bt236.1 bt236.2 ((bt236.1.length : Int) == 0)) else (patchbaylaw4_LabelParents.j0 k bt234.1 bt234.2 bt236.1 bt236.2 false)))) else (some false)) = some r := H
  have A2 := Aside0.mk A20
  clear A20
  by_cases c3 : t233 = 4
  · rw [if_pos c3] at H
    have c3b0 : (t233 == 4) = true := beq_iff_eq.mpr c3
    have c3b1 : (t233 != 4) = false := bne_eq_false_iff_eq.mpr c3
    clear c3
    replace H := Option.bind_eq_some_iff.mp H
    obtain ⟨⟨t234, t235⟩, A40, H⟩ := H
    replace H : ((patchbayref4_LabelsOf.f k a0).bind fun bt236 => (if bt236.2 = 0 then (patchbaylaw4_LabelParents.j0 k t234 t235 bt236.1 bt236.2 ((bt236.1.length : Int) == 0)) else (patchbaylaw4_LabelParents.j0 k t234 t235 bt236.1 bt236.2 false))) = some r := H
    have A4 := Aside0.mk A40
    clear A40
    replace H := Option.bind_eq_some_iff.mp H
    obtain ⟨⟨t236, t237⟩, A50, H⟩ := H
    replace H : (if t237 = 0 then (patchbaylaw4_LabelParents.j0 k t234 t235 t236 t237 ((t236.length : Int) == 0)) else (patchbaylaw4_LabelParents.j0 k t234 t235 t236 t237 false)) = some r := H
    have A5 := Aside0.mk A50
    clear A50
    have HC6 := Aside0.mk H
    clear H
    go_enter Tryd.func6, Tryd.ntmps6
    go_upto_region 6 with (first | ((with_reducible refine gate_callee (f := 19) rfl ?_); refine goesL_ (some 10) rfl rfl Tryd.func19 (by kernel_rfl) rfl #[.string (⟨#[46]⟩ : ByteArray)] rfl (by (try simp only [List.map_toArray, List.map_cons, List.map_nil]); first | done | rfl | (simp only [List.length_drop, List.length_take]; rfl)) ?_; (with_reducible refine (label_Parent.calls k (⟨#[46]⟩ : ByteArray) t232 t233 _ A2.out).mono ?_); rintro e w7 ⟨rfl, hb⟩; refine ⟨_, rfl, ?_⟩; have n0_ := Aside0.mk (below_step (by repeat (first | (with_reducible first | exact HB.out | apply below_alloc | apply pw_below_drewN | apply below_drew1) | exact HB.out)) hb); clear HB; have HB := n0_; clear n0_; (try clear hb); (try clear hb2); (try clear hk); (try clear hi)) | ((with_reducible refine gate_callee (f := 19) rfl ?_); refine goesL_ (some 17) rfl rfl Tryd.func19 (by kernel_rfl) rfl #[.string a0] rfl (by (try simp only [List.map_toArray, List.map_cons, List.map_nil]); first | done | rfl | (simp only [List.length_drop, List.length_take]; rfl)) ?_; (with_reducible refine (label_Parent.calls k a0 t234 t235 _ A4.out).mono ?_); rintro e w8 ⟨rfl, hb⟩; refine ⟨_, rfl, ?_⟩; have n0_ := Aside0.mk (below_step (by repeat (first | (with_reducible first | exact HB.out | apply below_alloc | apply pw_below_drewN | apply below_drew1) | exact HB.out)) hb); clear HB; have HB := n0_; clear n0_; (try clear hb); (try clear hb2); (try clear hk); (try clear hi)) | ((with_reducible refine gate_callee (f := 13) rfl ?_); refine goesL_ (some 22) rfl rfl Tryd.func13 (by kernel_rfl) rfl #[.string a0] rfl (by (try simp only [List.map_toArray, List.map_cons, List.map_nil]); first | done | rfl | (simp only [List.length_drop, List.length_take]; rfl)) ?_; (with_reducible refine (patchbayref4_LabelsOf.calls k a0 t236 t237 _ A5.out).mono ?_); rintro e w9 ⟨v238, rfl, ho0, hb⟩; refine ⟨_, rfl, ?_⟩; have n0_ := Aside0.mk (Kd.R_lower ho0 (below_size (by repeat (first | (with_reducible first | exact HB.out | apply below_alloc | apply pw_below_drewN | apply below_drew1) | exact HB.out)))); have n1_ := Aside0.mk (below_step (by repeat (first | (with_reducible first | exact HB.out | apply below_alloc | apply pw_below_drewN | apply below_drew1) | exact HB.out)) hb); clear HB; have HO239 := n0_; have HB := n1_; clear n0_ n1_; (try clear hb); (try clear hb2); (try clear hk); (try clear hi); (try clear ho0)))
    (try simp only [Act.put, List.setIfInBounds_toArray, List.set_cons_zero, List.set_cons_succ])
    go_cut [31] (fun v31 wc => ∃ (kq : Nat) (x31_5 : Bool), v31 = .bool x31_5 ∧ Aside0 (patchbaylaw4_LabelParents.j0 kq t234 t235 t236 t237 x31_5 = some r) ∧ Aside0 (kq ≤ k) ∧ Aside0 (Kd.R Kd.string 9 wc w.heap.size (fun _ => True) v238 t236) ∧ Aside0 (Below w.heap.size w wc))
    case first =>
      have H := HC6.out
      clear HC6
      by_cases c10 : t237 = 0
      · rw [if_pos c10] at H
        have c10b0 : (t237 == 0) = true := beq_iff_eq.mpr c10
        have c10b1 : (t237 != 0) = false := bne_eq_false_iff_eq.mpr c10
        clear c10
        (first | rw [c10b0] | (simp only [i64_w, i32_w]; rw [c10b0]) | skip)
        have H' := Aside0.mk H
        clear H
        obtain ⟨Ao11, co11, eo11⟩ := Kd.R_slice HO239.out
        subst eo11
        go_wp2
        go_meet
        case rel => exact ⟨_, (((t236.length : Int) == 0)), (by first | rfl | (simp; done) | (simp [*]; done)), (by first | exact H' | (subst_vars; exact H')), ⟨by first | omega | exact Nat.le_refl _⟩, ⟨by (with_reducible repeat (first | apply Kd.R_alloc | apply Kd.R_drewN | apply Kd.R_drew)); exact HO239.out⟩, ⟨by repeat (first | (with_reducible first | exact HB.out | apply below_alloc | apply pw_below_drewN | apply below_drew1) | exact HB.out)⟩⟩
      · rw [if_neg c10] at H
        have c10b0 : (t237 == 0) = false := beq_eq_false_iff_ne.mpr c10
        have c10b1 : (t237 != 0) = true := bne_iff_ne.mpr c10
        (first | rw [c10b0] | (simp only [i64_w, i32_w]; rw [c10b0]) | skip)
        have H' := Aside0.mk H
        clear H
        go_wp2
        go_meet
        case rel => exact ⟨_, (false), (by first | rfl | (simp; done) | (simp [*]; done)), (by first | exact H' | (subst_vars; exact H')), ⟨by first | omega | exact Nat.le_refl _⟩, ⟨by (with_reducible repeat (first | apply Kd.R_alloc | apply Kd.R_drewN | apply Kd.R_drew)); exact HO239.out⟩, ⟨by repeat (first | (with_reducible first | exact HB.out | apply below_alloc | apply pw_below_drewN | apply below_drew1) | exact HB.out)⟩⟩
    case rest =>
      clear HC6
      try clear c1
      try clear p2
      try clear c3
      try clear c3b0
      try clear c3b1
      try clear c6
      try clear c10
      try clear c10b0
      try clear c10b1
      obtain ⟨kq, x31_5, rfl, HA, HJ5, HO_7, HB⟩ := hcut
      cases kq with
      | zero => exact absurd HA.out (by simp [patchbaylaw4_LabelParents.j0])
      | succ kj5 =>
        have H := HA.out
        clear HA
        simp only [patchbaylaw4_LabelParents.j0] at H
        by_cases c12 : x31_5 = true
        · subst c12
          have H1 : (if 4 = 0 then (if t235 = 0 then (if 1 ≤ (t236.length : Int) then ((patchbayref4_NameOf.f kj5 (t236.drop 1)).bind fun t244 => (some (t234.toList == t244.toList))) else (none)) else (some false)) else (if t235 = 4 then (some (t234.toList == ([] : List UInt8))) else (some false))) = some r := by rw [if_pos rfl] at H; exact H
          clear H
          have H := H1
          clear H1
          by_cases c13 : 4 = 0
          · exact absurd c13 (by decide)
          · rw [if_neg c13] at H
            have c13b0 : (4 == 0) = false := beq_eq_false_iff_ne.mpr c13
            have c13b1 : (4 != 0) = true := bne_iff_ne.mpr c13
            by_cases c19 : t235 = 4
            · rw [if_pos c19] at H
              have c19b0 : (t235 == 4) = true := beq_iff_eq.mpr c19
              have c19b1 : (t235 != 4) = false := bne_eq_false_iff_eq.mpr c19
              clear c19
              obtain rfl := Option.some.inj H
              go_wp2
              go_ret
              exact ⟨by first | rfl | (simp [errW_none, errW_some] <;> rfl) | (simp [*, errW_none, errW_some] <;> rfl), by repeat (first | (with_reducible first | exact HB.out | apply below_alloc | apply pw_below_drewN | apply below_drew1) | exact HB.out)⟩
            · rw [if_neg c19] at H
              have c19b0 : (t235 == 4) = false := beq_eq_false_iff_ne.mpr c19
              have c19b1 : (t235 != 4) = true := bne_iff_ne.mpr c19
              obtain rfl := Option.some.inj H
              go_wp2
              go_ret
              exact ⟨by first | rfl | (simp [errW_none, errW_some] <;> rfl) | (simp [*, errW_none, errW_some] <;> rfl), by repeat (first | (with_reducible first | exact HB.out | apply below_alloc | apply pw_below_drewN | apply below_drew1) | exact HB.out)⟩
        · replace c12 := Bool.eq_false_iff.mpr c12
          subst c12
          have H1 : (if t237 = 0 then (if t235 = 0 then (if 1 ≤ (t236.length : Int) then ((patchbayref4_NameOf.f kj5 (t236.drop 1)).bind fun t249 => (some (t234.toList == t249.toList))) else (none)) else (some false)) else (if t235 = t237 then (some (t234.toList == ([] : List UInt8))) else (some false))) = some r := by rw [if_neg (show ¬ (false = true) by decide)] at H; exact H
          clear H
          have H := H1
          clear H1
          by_cases c20 : t237 = 0
          · rw [if_pos c20] at H
            have c20b0 : (t237 == 0) = true := beq_iff_eq.mpr c20
            have c20b1 : (t237 != 0) = false := bne_eq_false_iff_eq.mpr c20
            clear c20
            by_cases c21 : t235 = 0
            · rw [if_pos c21] at H
              have c21b0 : (t235 == 0) = true := beq_iff_eq.mpr c21
              have c21b1 : (t235 != 0) = false := bne_eq_false_iff_eq.mpr c21
              clear c21
              by_cases c22 : 1 ≤ (t236.length : Int)
              · rw [if_pos c22] at H
                have c22b0 := eq_true c22
                have c22b1 : decide (1 ≤ (t236.length : Int)) = true := decide_eq_true c22
                clear c22
                obtain ⟨y245, hy245⟩ : ∃ y_ : List ByteArray, y_ = (t236.drop 1) := ⟨_, rfl⟩
                replace H : ((patchbayref4_NameOf.f kj5 y245).bind fun t249 => (some (t234.toList == t249.toList))) = some r := by first | (rw [hy245]; with_reducible exact H) | (have H2_ := (Option.bind_some _ _).symm.trans H; rw [hy245]; with_reducible exact H2_) | (have H2_ := (Option.bind_some _ _).symm.trans H; with_reducible exact H2_) | with_reducible exact H | (rw [hy245]; exact H) | exact H
                have Ny245 := Aside0.mk hy245
                clear hy245
                replace H := Option.bind_eq_some_iff.mp H
                obtain ⟨t249, A230, H⟩ := H
                replace H : (some (t234.toList == t249.toList)) = some r := H
                have A23 := Aside0.mk A230
                clear A230
                obtain rfl := Option.some.inj H
                obtain ⟨Ao25, co25, eo25⟩ := Kd.R_slice HO_7.out
                subst eo25
                have q24 : (1 : Int) ≤ ((t236.length : Int) : Int) := of_decide_eq_true (by first | (with_reducible assumption) | assumption)
                obtain ⟨i024, hi024, _, hsz24, _⟩ := info_parts info9
                have hroom24 : t236.length ≤ co25 := (Kd.R_reads' HO_7.out).2.1
                have hC24 : Kd.C Kd.string _ Ao25 t236.length t236 := (Kd.R_reads' HO_7.out).2.2
                have hcut24 := cut_from (P := Tryd.prog) 24 9 .i64 Tryd.underlying24 hi024 1 hsz24 Ao25 t236.length co25 1 (by omega) q24
                have hr24 := Kd.C_drop (m := (1 : Int).toNat) (c := co25) hC24 (by omega) hroom24
                obtain ⟨A24, hA24⟩ : ∃ A1, A1 = (if co25 = (1 : Int).toNat then Ao25 else (Ao25 : Option Addr).map (·.add ((1 : Int).toNat * 1))) := ⟨_, rfl⟩
                obtain ⟨c24, hc24⟩ : ∃ c1, c1 = co25 - (1 : Int).toNat := ⟨_, rfl⟩
                have hy24 : y245.length = t236.length - (1 : Int).toNat := (by rw [Ny245.out, List.length_drop] <;> omega)
                rw [show (t236).drop (1 : Int).toNat = y245 from Ny245.out.symm] at hr24
                replace hr24 : Kd.C Kd.string _ A24 y245.length y245 := (by rw [hA24]; exact hr24)
                rw [← hy24, ← hA24, ← hc24] at hcut24
                have HR248 := Aside0.mk hr24
                have HC248 := Aside0.mk (show y245.length ≤ c24 from by rw [hy24, hc24]; exact Nat.sub_le_sub_right hroom24 _)
                clear hr24 hC24 hroom24 hi024 hsz24 hc24
                have KY24 := Aside0.mk hy24
                have KA24 := Aside0.mk hA24
                clear hy24 hA24
                have KL24 := Aside0.mk (show 1 ≤ t236.length from by omega)
                replace q24 := eq_true q24
                go_wp2_with (first | (go_at_call 20; (with_reducible refine (patchbayref4_NameOf.calls kj5 _ _ y245 t249 _ ?side1 ?side2 A23.out).mono ?_); (case side1 => repeat (first | exact (by repeat (first | (with_reducible exact HR248.out) | (with_reducible refine Kd.C_alloc ?_ _) | (with_reducible refine Kd.C_drewN ?_ _) | (with_reducible refine Kd.C_drew ?_) | exact HR248.out)) | (with_reducible refine Kd.C_alloc ?_ _) | (with_reducible refine Kd.C_drewN ?_ _) | (with_reducible refine Kd.C_drew ?_))); (case side2 => exact HC248.out); rintro e w' ⟨rfl, ⟨nd, rfl⟩⟩))
                go_ret
                exact ⟨by first | rfl | (simp [errW_none, errW_some] <;> rfl) | (simp [*, errW_none, errW_some] <;> rfl), by repeat (first | (with_reducible first | exact HB.out | apply below_alloc | apply pw_below_drewN | apply below_drew1) | exact HB.out)⟩
              · rw [if_neg c22] at H
                exact absurd H (by simp)
            · rw [if_neg c21] at H
              have c21b0 : (t235 == 0) = false := beq_eq_false_iff_ne.mpr c21
              have c21b1 : (t235 != 0) = true := bne_iff_ne.mpr c21
              obtain rfl := Option.some.inj H
              go_wp2
              go_ret
              exact ⟨by first | rfl | (simp [errW_none, errW_some] <;> rfl) | (simp [*, errW_none, errW_some] <;> rfl), by repeat (first | (with_reducible first | exact HB.out | apply below_alloc | apply pw_below_drewN | apply below_drew1) | exact HB.out)⟩
          · rw [if_neg c20] at H
            have c20b0 : (t237 == 0) = false := beq_eq_false_iff_ne.mpr c20
            have c20b1 : (t237 != 0) = true := bne_iff_ne.mpr c20
            by_cases c26 : t235 = t237
            · rw [if_pos c26] at H
              have c26b0 : (t235 == t237) = true := beq_iff_eq.mpr c26
              have c26b1 : (t235 != t237) = false := bne_eq_false_iff_eq.mpr c26
              clear c26
              obtain rfl := Option.some.inj H
              go_wp2
              go_ret
              exact ⟨by first | rfl | (simp [errW_none, errW_some] <;> rfl) | (simp [*, errW_none, errW_some] <;> rfl), by repeat (first | (with_reducible first | exact HB.out | apply below_alloc | apply pw_below_drewN | apply below_drew1) | exact HB.out)⟩
            · rw [if_neg c26] at H
              have c26b0 : (t235 == t237) = false := beq_eq_false_iff_ne.mpr c26
              have c26b1 : (t235 != t237) = true := bne_iff_ne.mpr c26
              obtain rfl := Option.some.inj H
              go_wp2
              go_ret
              exact ⟨by first | rfl | (simp [errW_none, errW_some] <;> rfl) | (simp [*, errW_none, errW_some] <;> rfl), by repeat (first | (with_reducible first | exact HB.out | apply below_alloc | apply pw_below_drewN | apply below_drew1) | exact HB.out)⟩
  · rw [if_neg c3] at H
    have c3b0 : (t233 == 4) = false := beq_eq_false_iff_ne.mpr c3
    have c3b1 : (t233 != 4) = true := bne_iff_ne.mpr c3
    obtain rfl := Option.some.inj H
    go_enter Tryd.func6, Tryd.ntmps6
    go_wp2_with (first | ((with_reducible refine gate_callee (f := 19) rfl ?_); refine goesL_ (some 10) rfl rfl Tryd.func19 (by kernel_rfl) rfl #[.string (⟨#[46]⟩ : ByteArray)] rfl (by (try simp only [List.map_toArray, List.map_cons, List.map_nil]); first | done | rfl | (simp only [List.length_drop, List.length_take]; rfl)) ?_; (with_reducible refine (label_Parent.calls k (⟨#[46]⟩ : ByteArray) t232 t233 _ A2.out).mono ?_); rintro e w27 ⟨rfl, hb⟩; refine ⟨_, rfl, ?_⟩; have n0_ := Aside0.mk (below_step (by repeat (first | (with_reducible first | exact HB.out | apply below_alloc | apply pw_below_drewN | apply below_drew1) | exact HB.out)) hb); clear HB; have HB := n0_; clear n0_; (try clear hb); (try clear hb2); (try clear hk); (try clear hi)))
    go_ret
    exact ⟨by first | rfl | (simp [errW_none, errW_some] <;> rfl) | (simp [*, errW_none, errW_some] <;> rfl), by repeat (first | (with_reducible first | exact HB.out | apply below_alloc | apply pw_below_drewN | apply below_drew1) | exact HB.out)⟩

/-- THE ONE PURE STATEMENT of patchbaylaw4_LabelParents: yours. -/
def patchbaylaw4_LabelParents.Pure : Prop := ∀ (a0 : ByteArray), a0.size ≤ 140737488351232 → ∃ k, patchbaylaw4_LabelParents.f k a0 = some true
theorem patchbaylaw4_LabelParents.walk (P : patchbaylaw4_LabelParents.Pure) (a0 : ByteArray) (w : World) (w0 : a0.size ≤ 140737488351232) :
    Calls Tryd.prog 6 #[.string a0] w fun e w' => e = .returned (.bool true) ∧ Below w.heap.size w w' := by
  obtain ⟨k, h⟩ := P a0 w0
  refine (patchbaylaw4_LabelParents.calls k a0 true w h).mono ?_
  rintro e w' ⟨rfl, hd⟩
  exact ⟨rfl, hd⟩

end Go.Proofs.YtbcocpaeehgmnaaDoor.Label
