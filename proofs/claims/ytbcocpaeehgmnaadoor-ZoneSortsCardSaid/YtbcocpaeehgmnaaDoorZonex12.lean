/- Printed by a program of this seat's session: what the Go functions compute, and that they do. -/
import Derived.Test.YtbcocpaeehgmnaaDoorZonex0
import Derived.Test.YtbcocpaeehgmnaaDoorZonex5
import Derived.Test.YtbcocpaeehgmnaaDoorStrGtr
namespace Go.Proofs.YtbcocpaeehgmnaaDoor.Zone
open Go.RowKit Go.Proofs.YtbcocpaeehgmnaaDoorW.PrintWords Go.Proofs.YtbcocpaeehgmnaaDoorW.PrintLast Go.Proofs.YtbcocpaeehgmnaaDoorW.PrintMore
attribute [local go_sem] max2_int min2_int max_two min_two max_three min_three max_four min_four   -- for this text's walks alone
set_option linter.unusedVariables false
set_option linter.unusedSimpArgs false
set_option maxRecDepth 100000

/-! ### patchbayref4_NameOrder: function 18 -/
mutual
def patchbayref4_NameOrder.l0 : Nat → List ByteArray → List ByteArray → Int → Option (Int)
  | 0, _, _, _ => none
  | k + 1, x5, x7, x9 => if x9 = (x5.length : Int) then (patchbayref4_NameOrder.j1 k x5 x7 x9 (x9 == (x7.length : Int))) else (patchbayref4_NameOrder.j1 k x5 x7 x9 false)
def patchbayref4_NameOrder.j1 : Nat → List ByteArray → List ByteArray → Int → Bool → Option (Int)
  | 0, _, _, _, _ => none
  | k + 1, x5, x7, x9, x24 => if x24 = true then (some 0) else (if x9 = (x5.length : Int) then (some (-1)) else (if x9 = (x7.length : Int) then (some 1) else (if 0 ≤ (wrap64 ((wrap64 ((x5.length : Int) - 1)) - x9)) then (if (wrap64 ((wrap64 ((x5.length : Int) - 1)) - x9)) < (x5.length : Int) then (if 0 ≤ (wrap64 ((wrap64 ((x7.length : Int) - 1)) - x9)) then (if (wrap64 ((wrap64 ((x7.length : Int) - 1)) - x9)) < (x7.length : Int) then (if (Op.bytesLess ((rdOf ByteArray.empty x5 (wrap64 ((wrap64 ((x5.length : Int) - 1)) - x9))).toList) ((rdOf ByteArray.empty x7 (wrap64 ((wrap64 ((x7.length : Int) - 1)) - x9))).toList)) = true then (some (-1)) else (if (Op.bytesLess ((rdOf ByteArray.empty x7 (wrap64 ((wrap64 ((x7.length : Int) - 1)) - x9))).toList) ((rdOf ByteArray.empty x5 (wrap64 ((wrap64 ((x5.length : Int) - 1)) - x9))).toList)) = true then (some 1) else (patchbayref4_NameOrder.l0 k x5 x7 (wrap64 (x9 + 1))))) else (none)) else (none)) else (none)) else (none))))
end
def patchbayref4_NameOrder.f (k : Nat) (a0 : ByteArray) (a1 : ByteArray) : Option (Int) := (patchbayref4_LabelsOf.f k a0).bind fun bt250 => ((patchbayref4_LabelsOf.f k a1).bind fun bt254 => (patchbayref4_NameOrder.l0 k bt250.1 bt254.1 0))
theorem patchbayref4_NameOrder.mono_l : ∀ k, (∀ y0 y1 y2, LeO (patchbayref4_NameOrder.l0 k y0 y1 y2) (patchbayref4_NameOrder.l0 (k + 1) y0 y1 y2)) ∧ (∀ y0 y1 y2 y3, LeO (patchbayref4_NameOrder.j1 k y0 y1 y2 y3) (patchbayref4_NameOrder.j1 (k + 1) y0 y1 y2 y3))
  | 0 => ⟨fun _ _ _ r h => by simp [patchbayref4_NameOrder.l0] at h, fun _ _ _ _ r h => by simp [patchbayref4_NameOrder.j1] at h⟩
  | k + 1 => by
    obtain ⟨ih0, ih1⟩ := patchbayref4_NameOrder.mono_l k
    refine ⟨?_, ?_⟩
    · intro y0 y1 y2
      unfold patchbayref4_NameOrder.l0
      repeat' first
      | (with_reducible exact LeO.refl _)
      | exact ih0 _ _ _
      | exact ih1 _ _ _ _
      | exact patchbayref4_LabelsOf.mono _ _
      | exact LeO.none _
      | refine LeO.ite ?_ ?_
      | refine LeO.bind ?_ (fun _ => ?_)
    · intro y0 y1 y2 y3
      unfold patchbayref4_NameOrder.j1
      repeat' first
      | (with_reducible exact LeO.refl _)
      | exact ih0 _ _ _
      | exact ih1 _ _ _ _
      | exact patchbayref4_LabelsOf.mono _ _
      | exact LeO.none _
      | refine LeO.ite ?_ ?_
      | refine LeO.bind ?_ (fun _ => ?_)
theorem patchbayref4_NameOrder.mono : ∀ a0 a1 k, LeO (patchbayref4_NameOrder.f k a0 a1) (patchbayref4_NameOrder.f (k + 1) a0 a1) := by
  intro a0 a1 k
  obtain ⟨ih0, ih1⟩ := patchbayref4_NameOrder.mono_l k
  unfold patchbayref4_NameOrder.f
  repeat' first
      | (with_reducible exact LeO.refl _)
      | exact ih0 _ _ _
      | exact ih1 _ _ _ _
      | exact patchbayref4_LabelsOf.mono _ _
      | exact LeO.none _
      | refine LeO.ite ?_ ?_
      | refine LeO.bind ?_ (fun _ => ?_)
set_option maxHeartbeats 8000000 in
set_option maxRecDepth 100000 in
theorem patchbayref4_NameOrder.calls (k : Nat) (a0 : ByteArray) (a1 : ByteArray) (r : Int) (w : World) (h : patchbayref4_NameOrder.f k a0 a1 = some r) :
    Calls Tryd.prog 18 #[.string a0, .string a1] w fun e w' => e = .returned (.int .i64 r) ∧ Below w.heap.size w w' := by
  have HB := Aside0.mk (Below.refl w.heap.size w)
  have H : ((patchbayref4_LabelsOf.f k a0).bind fun bt250 => ((patchbayref4_LabelsOf.f k a1).bind fun bt254 => (patchbayref4_NameOrder.l0 k bt250.1 bt254.1 0))) = some r := h
  clear h; replace H := Option.bind_eq_some_iff.mp H
  obtain ⟨⟨t250, t251⟩, A30, H⟩ := H
  replace H : ((patchbayref4_LabelsOf.f k a1).bind fun bt254 => (patchbayref4_NameOrder.l0 k t250 bt254.1 0)) = some r := H
  have A3 := Aside0.mk A30; clear A30; replace H := Option.bind_eq_some_iff.mp H
  obtain ⟨⟨t254, t255⟩, A40, H⟩ := H
  replace H : (patchbayref4_NameOrder.l0 k t250 t254 0) = some r := H
  have A4 := Aside0.mk A40; clear A40
  have H' := Aside0.mk H
  clear H
  go_enter Tryd.func18, Tryd.ntmps18
  go_wp2_with (first | (go_at_call 13; (with_reducible refine (patchbayref4_LabelsOf.calls k a0 t250 t251 _ A3.out).mono ?_); rintro e w5 ⟨v252, rfl, ho0, hb⟩; have n0_ := Aside0.mk (Kd.R_lower ho0 (below_size (by repeat (first | (with_reducible first | exact HB.out | apply below_alloc | apply pw_below_drewN | apply below_drew1) | exact HB.out)))); have n1_ := Aside0.mk (below_step (by repeat (first | (with_reducible first | exact HB.out | apply below_alloc | apply pw_below_drewN | apply below_drew1) | exact HB.out)) hb); clear HB; have HO253 := n0_; have HB := n1_; clear n0_ n1_; (try clear hb); (try clear hb2); (try clear hk); (try clear hi); (try clear ho0)) | (go_at_call 13; (with_reducible refine (patchbayref4_LabelsOf.calls k a1 t254 t255 _ A4.out).mono ?_); rintro e w6 ⟨v256, rfl, ho0, hb⟩; have n0_ := Aside0.mk (Kd.R_elder' (by (with_reducible repeat (first | apply Kd.R_alloc | apply Kd.R_drewN | apply Kd.R_drew)); exact HO253.out) (Kd.R_base ho0) hb); have n1_ := Aside0.mk (Kd.R_lower (Kd.R_new' ho0 (Kd.R_lt (by (with_reducible repeat (first | apply Kd.R_alloc | apply Kd.R_drewN | apply Kd.R_drew)); exact HO253.out))) (below_size (by repeat (first | (with_reducible first | exact HB.out | apply below_alloc | apply pw_below_drewN | apply below_drew1) | exact HB.out)))); have n2_ := Aside0.mk (below_step (by repeat (first | (with_reducible first | exact HB.out | apply below_alloc | apply pw_below_drewN | apply below_drew1) | exact HB.out)) hb); clear HO253; clear HB; have HO253 := n0_; have HO257 := n1_; have HB := n2_; clear n0_ n1_ n2_; (try clear hb); (try clear hb2); (try clear hk); (try clear hi); (try clear ho0)))
  repeat (go_quiet (first | (go_at_call 13; (with_reducible refine (patchbayref4_LabelsOf.calls k a0 t250 t251 _ A3.out).mono ?_); rintro e w5 ⟨v252, rfl, ho0, hb⟩; have n0_ := Aside0.mk (Kd.R_lower ho0 (below_size (by repeat (first | (with_reducible first | exact HB.out | apply below_alloc | apply pw_below_drewN | apply below_drew1) | exact HB.out)))); have n1_ := Aside0.mk (below_step (by repeat (first | (with_reducible first | exact HB.out | apply below_alloc | apply pw_below_drewN | apply below_drew1) | exact HB.out)) hb); clear HB; have HO253 := n0_; have HB := n1_; clear n0_ n1_; (try clear hb); (try clear hb2); (try clear hk); (try clear hi); (try clear ho0)) | (go_at_call 13; (with_reducible refine (patchbayref4_LabelsOf.calls k a1 t254 t255 _ A4.out).mono ?_); rintro e w6 ⟨v256, rfl, ho0, hb⟩; have n0_ := Aside0.mk (Kd.R_elder' (by (with_reducible repeat (first | apply Kd.R_alloc | apply Kd.R_drewN | apply Kd.R_drew)); exact HO253.out) (Kd.R_base ho0) hb); have n1_ := Aside0.mk (Kd.R_lower (Kd.R_new' ho0 (Kd.R_lt (by (with_reducible repeat (first | apply Kd.R_alloc | apply Kd.R_drewN | apply Kd.R_drew)); exact HO253.out))) (below_size (by repeat (first | (with_reducible first | exact HB.out | apply below_alloc | apply pw_below_drewN | apply below_drew1) | exact HB.out)))); have n2_ := Aside0.mk (below_step (by repeat (first | (with_reducible first | exact HB.out | apply below_alloc | apply pw_below_drewN | apply below_drew1) | exact HB.out)) hb); clear HO253; clear HB; have HO253 := n0_; have HO257 := n1_; have HB := n2_; clear n0_ n1_ n2_; (try clear hb); (try clear hb2); (try clear hk); (try clear hi); (try clear ho0))); try go_wp2_with (first | (go_at_call 13; (with_reducible refine (patchbayref4_LabelsOf.calls k a0 t250 t251 _ A3.out).mono ?_); rintro e w5 ⟨v252, rfl, ho0, hb⟩; have n0_ := Aside0.mk (Kd.R_lower ho0 (below_size (by repeat (first | (with_reducible first | exact HB.out | apply below_alloc | apply pw_below_drewN | apply below_drew1) | exact HB.out)))); have n1_ := Aside0.mk (below_step (by repeat (first | (with_reducible first | exact HB.out | apply below_alloc | apply pw_below_drewN | apply below_drew1) | exact HB.out)) hb); clear HB; have HO253 := n0_; have HB := n1_; clear n0_ n1_; (try clear hb); (try clear hb2); (try clear hk); (try clear hi); (try clear ho0)) | (go_at_call 13; (with_reducible refine (patchbayref4_LabelsOf.calls k a1 t254 t255 _ A4.out).mono ?_); rintro e w6 ⟨v256, rfl, ho0, hb⟩; have n0_ := Aside0.mk (Kd.R_elder' (by (with_reducible repeat (first | apply Kd.R_alloc | apply Kd.R_drewN | apply Kd.R_drew)); exact HO253.out) (Kd.R_base ho0) hb); have n1_ := Aside0.mk (Kd.R_lower (Kd.R_new' ho0 (Kd.R_lt (by (with_reducible repeat (first | apply Kd.R_alloc | apply Kd.R_drewN | apply Kd.R_drew)); exact HO253.out))) (below_size (by repeat (first | (with_reducible first | exact HB.out | apply below_alloc | apply pw_below_drewN | apply below_drew1) | exact HB.out)))); have n2_ := Aside0.mk (below_step (by repeat (first | (with_reducible first | exact HB.out | apply below_alloc | apply pw_below_drewN | apply below_drew1) | exact HB.out)) hb); clear HO253; clear HB; have HO253 := n0_; have HO257 := n1_; have HB := n2_; clear n0_ n1_ n2_; (try clear hb); (try clear hb2); (try clear hk); (try clear hi); (try clear ho0))))
  (try simp only [Act.put, sA, sB, sC])
  go_loopg [9] k (fun kq v9 w' => ∃ (x9_1 : Int), v9 = .int .i64 x9_1 ∧ Aside0 (patchbayref4_NameOrder.l0 kq t250 t254 x9_1 = some r) ∧ Aside0 (kq ≤ k) ∧ Aside0 (Kd.R Kd.string 9 w' w.heap.size (fun k_ => some k_ ≠ (v256 : Value).ownBlock) v252 t250) ∧ Aside0 (Kd.R Kd.string 9 w' w.heap.size (fun k_ => some k_ ≠ (v252 : Value).ownBlock) v256 t254) ∧ Aside0 (Below w.heap.size w w'))
  case atStart => exact ⟨(0), (by first | rfl | (simp; done) | (simp [*]; done)), H', ⟨Nat.le_refl _⟩, ⟨by (with_reducible repeat (first | apply Kd.R_alloc | apply Kd.R_drewN | apply Kd.R_drew)); exact Kd.R_mono HO253.out (fun _ hk => hk.2)⟩, ⟨by (with_reducible repeat (first | apply Kd.R_alloc | apply Kd.R_drewN | apply Kd.R_drew)); exact Kd.R_mono HO257.out (fun _ hk => hk.2)⟩, ⟨by repeat (first | (with_reducible first | exact HB.out | apply below_alloc | apply pw_below_drewN | apply below_drew1) | exact HB.out)⟩⟩
  case round =>
    clear H'
    (try clear c1); (try clear p2)
    obtain ⟨x9_1, rfl, HA, HK1, HO_5, HO_7, HB⟩ := hrel
    cases gk with
    | zero => exact absurd HA.out (by simp [patchbayref4_NameOrder.l0])
    | succ k1 =>
      have H := HA.out; clear HA
      simp only [patchbayref4_NameOrder.l0] at H
      have HC7 := Aside0.mk H; clear H
      go_upto_region 5 with (fail)
      repeat (go_quiet (fail); go_upto_region 5 with (fail))
      go_cut [24] (fun v24 wc => ∃ (kq : Nat) (x24_6 : Bool), v24 = .bool x24_6 ∧ Aside0 (patchbayref4_NameOrder.j1 kq t250 t254 x9_1 x24_6 = some r) ∧ Aside0 (kq ≤ k1) ∧ Aside0 (Kd.R Kd.string 9 wc w.heap.size (fun k_ => some k_ ≠ (v256 : Value).ownBlock) v252 t250) ∧ Aside0 (Kd.R Kd.string 9 wc w.heap.size (fun k_ => some k_ ≠ (v252 : Value).ownBlock) v256 t254) ∧ Aside0 (Below w.heap.size w wc))
      case first =>
        have H := HC7.out; clear HC7
        by_cases c8 : x9_1 = (t250.length : Int)
        · rw [if_pos c8] at H
          have c8b0 : (x9_1 == (t250.length : Int)) = true := beq_iff_eq.mpr c8
          have c8b1 : (x9_1 != (t250.length : Int)) = false := bne_eq_false_iff_eq.mpr c8
          clear c8
          (first | rw [c8b0] | (simp only [i64_w, i32_w]; rw [c8b0]) | skip)
          have H' := Aside0.mk H
          clear H
          obtain ⟨Ao9, co9, eo9⟩ := Kd.R_slice HO_5.out
          subst eo9
          obtain ⟨Ao10, co10, eo10⟩ := Kd.R_slice HO_7.out
          subst eo10
          go_wp2
          repeat (go_quiet (fail); try go_wp2)
          go_meet
          case rel => exact ⟨_, ((x9_1 == (t254.length : Int))), (by first | rfl | (simp; done) | (simp [*]; done)), (by first | exact H' | (subst_vars; exact H')), ⟨by have := HK1.out; first | omega | exact Nat.le_refl _⟩, ⟨by (with_reducible repeat (first | apply Kd.R_alloc | apply Kd.R_drewN | apply Kd.R_drew)); exact HO_5.out⟩, ⟨by (with_reducible repeat (first | apply Kd.R_alloc | apply Kd.R_drewN | apply Kd.R_drew)); exact HO_7.out⟩, ⟨by repeat (first | (with_reducible first | exact HB.out | apply below_alloc | apply pw_below_drewN | apply below_drew1) | exact HB.out)⟩⟩
        · rw [if_neg c8] at H
          have c8b0 : (x9_1 == (t250.length : Int)) = false := beq_eq_false_iff_ne.mpr c8
          have c8b1 : (x9_1 != (t250.length : Int)) = true := bne_iff_ne.mpr c8
          (first | rw [c8b0] | (simp only [i64_w, i32_w]; rw [c8b0]) | skip)
          have H' := Aside0.mk H
          clear H
          obtain ⟨Ao11, co11, eo11⟩ := Kd.R_slice HO_5.out
          subst eo11
          go_wp2
          repeat (go_quiet (fail); try go_wp2)
          go_meet
          case rel => exact ⟨_, (false), (by first | rfl | (simp; done) | (simp [*]; done)), (by first | exact H' | (subst_vars; exact H')), ⟨by have := HK1.out; first | omega | exact Nat.le_refl _⟩, ⟨by (with_reducible repeat (first | apply Kd.R_alloc | apply Kd.R_drewN | apply Kd.R_drew)); exact HO_5.out⟩, ⟨by (with_reducible repeat (first | apply Kd.R_alloc | apply Kd.R_drewN | apply Kd.R_drew)); exact HO_7.out⟩, ⟨by repeat (first | (with_reducible first | exact HB.out | apply below_alloc | apply pw_below_drewN | apply below_drew1) | exact HB.out)⟩⟩
      case rest =>
        clear HC7; (try clear c1); (try clear p2); (try clear c8); (try clear c8b0); (try clear c8b1); (try clear p2)
        obtain ⟨kq, x24_6, rfl, HA, HJ6, HO_5, HO_7, HB⟩ := hcut
        cases kq with
        | zero => exact absurd HA.out (by simp [patchbayref4_NameOrder.j1])
        | succ kj6 =>
          have H := HA.out; clear HA
          simp only [patchbayref4_NameOrder.j1] at H
          by_cases c12 : x24_6 = true
          · subst c12
            have H1 : (some 0) = some r := by rw [if_pos rfl] at H; exact H
            clear H; have H := H1; clear H1; obtain rfl := Option.some.inj H
            go_wp2
            repeat (go_quiet (fail); try go_wp2)
            go_ret
            exact ⟨by first | rfl | (simp [errW_none, errW_some] <;> rfl) | (simp [*, errW_none, errW_some] <;> rfl), by repeat (first | (with_reducible first | exact HB.out | apply below_alloc | apply pw_below_drewN | apply below_drew1) | exact HB.out)⟩
          · replace c12 := Bool.eq_false_iff.mpr c12
            subst c12
            have H1 : (if x9_1 = (t250.length : Int) then (some (-1)) else (if x9_1 = (t254.length : Int) then (some 1) else (if 0 ≤ (wrap64 ((wrap64 ((t250.length : Int) - 1)) - x9_1)) then (if (wrap64 ((wrap64 ((t250.length : Int) - 1)) - x9_1)) < (t250.length : Int) then (if 0 ≤ (wrap64 ((wrap64 ((t254.length : Int) - 1)) - x9_1)) then (if (wrap64 ((wrap64 ((t254.length : Int) - 1)) - x9_1)) < (t254.length : Int) then (if (Op.bytesLess ((rdOf ByteArray.empty t250 (wrap64 ((wrap64 ((t250.length : Int) - 1)) - x9_1))).toList) ((rdOf ByteArray.empty t254 (wrap64 ((wrap64 ((t254.length : Int) - 1)) - x9_1))).toList)) = true then (some (-1)) else (if (Op.bytesLess ((rdOf ByteArray.empty t254 (wrap64 ((wrap64 ((t254.length : Int) - 1)) - x9_1))).toList) ((rdOf ByteArray.empty t250 (wrap64 ((wrap64 ((t250.length : Int) - 1)) - x9_1))).toList)) = true then (some 1) else (patchbayref4_NameOrder.l0 kj6 t250 t254 (wrap64 (x9_1 + 1))))) else (none)) else (none)) else (none)) else (none)))) = some r := by rw [if_neg (show ¬ (false = true) by decide)] at H; exact H
            clear H; have H := H1; clear H1
            by_cases c13 : x9_1 = (t250.length : Int)
            · rw [if_pos c13] at H
              have c13b0 : (x9_1 == (t250.length : Int)) = true := beq_iff_eq.mpr c13
              have c13b1 : (x9_1 != (t250.length : Int)) = false := bne_eq_false_iff_eq.mpr c13
              clear c13; obtain rfl := Option.some.inj H
              obtain ⟨Ao14, co14, eo14⟩ := Kd.R_slice HO_5.out
              subst eo14
              go_wp2
              repeat (go_quiet (fail); try go_wp2)
              go_ret
              exact ⟨by first | rfl | (simp [errW_none, errW_some] <;> rfl) | (simp [*, errW_none, errW_some] <;> rfl), by repeat (first | (with_reducible first | exact HB.out | apply below_alloc | apply pw_below_drewN | apply below_drew1) | exact HB.out)⟩
            · rw [if_neg c13] at H
              have c13b0 : (x9_1 == (t250.length : Int)) = false := beq_eq_false_iff_ne.mpr c13
              have c13b1 : (x9_1 != (t250.length : Int)) = true := bne_iff_ne.mpr c13
              by_cases c15 : x9_1 = (t254.length : Int)
              · rw [if_pos c15] at H
                have c15b0 : (x9_1 == (t254.length : Int)) = true := beq_iff_eq.mpr c15
                have c15b1 : (x9_1 != (t254.length : Int)) = false := bne_eq_false_iff_eq.mpr c15
                clear c15; obtain rfl := Option.some.inj H
                obtain ⟨Ao16, co16, eo16⟩ := Kd.R_slice HO_5.out
                subst eo16
                obtain ⟨Ao17, co17, eo17⟩ := Kd.R_slice HO_7.out
                subst eo17
                go_wp2
                repeat (go_quiet (fail); try go_wp2)
                go_ret
                exact ⟨by first | rfl | (simp [errW_none, errW_some] <;> rfl) | (simp [*, errW_none, errW_some] <;> rfl), by repeat (first | (with_reducible first | exact HB.out | apply below_alloc | apply pw_below_drewN | apply below_drew1) | exact HB.out)⟩
              · rw [if_neg c15] at H
                have c15b0 : (x9_1 == (t254.length : Int)) = false := beq_eq_false_iff_ne.mpr c15
                have c15b1 : (x9_1 != (t254.length : Int)) = true := bne_iff_ne.mpr c15
                obtain ⟨ji18, hji18⟩ : ∃ j_ : Int, (wrap64 ((wrap64 ((t250.length : Int) - 1)) - x9_1)) = j_ := ⟨_, rfl⟩
                replace H : (if 0 ≤ (ji18) then (if (ji18) < (t250.length : Int) then (if 0 ≤ (wrap64 ((wrap64 ((t254.length : Int) - 1)) - x9_1)) then (if (wrap64 ((wrap64 ((t254.length : Int) - 1)) - x9_1)) < (t254.length : Int) then (if (Op.bytesLess ((rdOf ByteArray.empty t250 (ji18)).toList) ((rdOf ByteArray.empty t254 (wrap64 ((wrap64 ((t254.length : Int) - 1)) - x9_1))).toList)) = true then (some (-1)) else (if (Op.bytesLess ((rdOf ByteArray.empty t254 (wrap64 ((wrap64 ((t254.length : Int) - 1)) - x9_1))).toList) ((rdOf ByteArray.empty t250 (ji18)).toList)) = true then (some 1) else (patchbayref4_NameOrder.l0 kj6 t250 t254 (wrap64 (x9_1 + 1))))) else (none)) else (none)) else (none)) else (none)) = some r := by first | (rw [hji18] at H; exact H) | (simp only [hji18] at H ⊢; exact H)
                have hji18w : (IntKind.i64.wrap ((wrap64 ((t250.length : Int) - 1)) - x9_1)) = ji18 := (i64_w _).trans hji18
                by_cases c19 : 0 ≤ (ji18)
                rotate_left
                · rw [if_neg c19] at H; exact absurd H (by simp)
                rw [if_pos c19] at H
                have c19b0 : decide (0 ≤ (ji18)) = true := decide_eq_true c19
                clear c19
                by_cases c20 : (ji18) < (t250.length : Int)
                rotate_left
                · rw [if_neg c20] at H; exact absurd H (by simp)
                rw [if_pos c20] at H
                have c20b0 : decide ((ji18) < (t250.length : Int)) = true := decide_eq_true c20
                clear c20
                obtain ⟨ji21, hji21⟩ : ∃ j_ : Int, (wrap64 ((wrap64 ((t254.length : Int) - 1)) - x9_1)) = j_ := ⟨_, rfl⟩
                replace H : (if 0 ≤ (ji21) then (if (ji21) < (t254.length : Int) then (if (Op.bytesLess ((rdOf ByteArray.empty t250 (ji18)).toList) ((rdOf ByteArray.empty t254 (ji21)).toList)) = true then (some (-1)) else (if (Op.bytesLess ((rdOf ByteArray.empty t254 (ji21)).toList) ((rdOf ByteArray.empty t250 (ji18)).toList)) = true then (some 1) else (patchbayref4_NameOrder.l0 kj6 t250 t254 (wrap64 (x9_1 + 1))))) else (none)) else (none)) = some r := by first | (rw [hji21] at H; exact H) | (simp only [hji21] at H ⊢; exact H)
                have hji21w : (IntKind.i64.wrap ((wrap64 ((t254.length : Int) - 1)) - x9_1)) = ji21 := (i64_w _).trans hji21
                by_cases c22 : 0 ≤ (ji21)
                rotate_left
                · rw [if_neg c22] at H; exact absurd H (by simp)
                rw [if_pos c22] at H
                have c22b0 : decide (0 ≤ (ji21)) = true := decide_eq_true c22
                clear c22
                by_cases c23 : (ji21) < (t254.length : Int)
                rotate_left
                · rw [if_neg c23] at H; exact absurd H (by simp)
                rw [if_pos c23] at H
                have c23b0 : decide ((ji21) < (t254.length : Int)) = true := decide_eq_true c23
                clear c23
                by_cases c24 : (Op.bytesLess ((rdOf ByteArray.empty t250 (ji18)).toList) ((rdOf ByteArray.empty t254 (ji21)).toList)) = true
                · rw [if_pos c24] at H
                  have c24b0 : (Op.bytesLess ((rdOf ByteArray.empty t250 (ji18)).toList) ((rdOf ByteArray.empty t254 (ji21)).toList)) = true := c24
                  clear c24; obtain rfl := Option.some.inj H
                  obtain ⟨Ao25, co25, eo25⟩ := Kd.R_slice HO_5.out
                  subst eo25
                  obtain ⟨Ao26, co26, eo26⟩ := Kd.R_slice HO_7.out
                  subst eo26
                  have p258 : 0 ≤ ((ji18) : Int) := of_decide_eq_true (by first | (with_reducible assumption) | assumption)
                  have q258 : (ji18) < (t250.length : Int) := of_decide_eq_true (by first | (with_reducible assumption) | assumption)
                  obtain ⟨ad258, e258, hx258_0⟩ := Kd.at_string (Kd.R_reads' HO_5.out).2.2 (ji18) p258 q258
                  cases e258; replace p258 := eq_true p258; replace q258 := eq_true q258
                  have p259 : 0 ≤ ((ji21) : Int) := of_decide_eq_true (by first | (with_reducible assumption) | assumption)
                  have q259 : (ji21) < (t254.length : Int) := of_decide_eq_true (by first | (with_reducible assumption) | assumption)
                  obtain ⟨ad259, e259, hx259_0⟩ := Kd.at_string (Kd.R_reads' HO_7.out).2.2 (ji21) p259 q259
                  cases e259; replace p259 := eq_true p259; replace q259 := eq_true q259
                  go_wp2
                  repeat (go_quiet (fail); try go_wp2)
                  go_ret
                  exact ⟨by first | rfl | (simp [errW_none, errW_some] <;> rfl) | (simp only [← hji18, ← hji21]; first | rfl | (simp [errW_none, errW_some] <;> rfl)) | (simp [*, errW_none, errW_some] <;> rfl), by repeat (first | (with_reducible first | exact HB.out | apply below_alloc | apply pw_below_drewN | apply below_drew1) | exact HB.out)⟩
                · rw [if_neg c24] at H
                  have c24b0 : (Op.bytesLess ((rdOf ByteArray.empty t250 (ji18)).toList) ((rdOf ByteArray.empty t254 (ji21)).toList)) = false := by simpa using c24
                  clear c24
                  by_cases c27 : (Op.bytesLess ((rdOf ByteArray.empty t254 (ji21)).toList) ((rdOf ByteArray.empty t250 (ji18)).toList)) = true
                  · rw [if_pos c27] at H
                    have c27b0 : (Op.bytesLess ((rdOf ByteArray.empty t254 (ji21)).toList) ((rdOf ByteArray.empty t250 (ji18)).toList)) = true := c27
                    clear c27; obtain rfl := Option.some.inj H
                    obtain ⟨Ao28, co28, eo28⟩ := Kd.R_slice HO_5.out
                    subst eo28
                    obtain ⟨Ao29, co29, eo29⟩ := Kd.R_slice HO_7.out
                    subst eo29
                    have p258 : 0 ≤ ((ji18) : Int) := of_decide_eq_true (by first | (with_reducible assumption) | assumption)
                    have q258 : (ji18) < (t250.length : Int) := of_decide_eq_true (by first | (with_reducible assumption) | assumption)
                    obtain ⟨ad258, e258, hx258_0⟩ := Kd.at_string (Kd.R_reads' HO_5.out).2.2 (ji18) p258 q258
                    cases e258; replace p258 := eq_true p258; replace q258 := eq_true q258
                    have p259 : 0 ≤ ((ji21) : Int) := of_decide_eq_true (by first | (with_reducible assumption) | assumption)
                    have q259 : (ji21) < (t254.length : Int) := of_decide_eq_true (by first | (with_reducible assumption) | assumption)
                    obtain ⟨ad259, e259, hx259_0⟩ := Kd.at_string (Kd.R_reads' HO_7.out).2.2 (ji21) p259 q259
                    cases e259; replace p259 := eq_true p259; replace q259 := eq_true q259
                    go_wp2
                    repeat (go_quiet (fail); try go_wp2)
                    go_ret
                    exact ⟨by first | rfl | (simp [errW_none, errW_some] <;> rfl) | (simp only [← hji18, ← hji21]; first | rfl | (simp [errW_none, errW_some] <;> rfl)) | (simp [*, errW_none, errW_some] <;> rfl), by repeat (first | (with_reducible first | exact HB.out | apply below_alloc | apply pw_below_drewN | apply below_drew1) | exact HB.out)⟩
                  · rw [if_neg c27] at H
                    have c27b0 : (Op.bytesLess ((rdOf ByteArray.empty t254 (ji21)).toList) ((rdOf ByteArray.empty t250 (ji18)).toList)) = false := by simpa using c27
                    clear c27
                    have H' := Aside0.mk H
                    clear H
                    obtain ⟨Ao30, co30, eo30⟩ := Kd.R_slice HO_5.out
                    subst eo30
                    obtain ⟨Ao31, co31, eo31⟩ := Kd.R_slice HO_7.out
                    subst eo31
                    have p258 : 0 ≤ ((ji18) : Int) := of_decide_eq_true (by first | (with_reducible assumption) | assumption)
                    have q258 : (ji18) < (t250.length : Int) := of_decide_eq_true (by first | (with_reducible assumption) | assumption)
                    obtain ⟨ad258, e258, hx258_0⟩ := Kd.at_string (Kd.R_reads' HO_5.out).2.2 (ji18) p258 q258
                    cases e258; replace p258 := eq_true p258; replace q258 := eq_true q258
                    have p259 : 0 ≤ ((ji21) : Int) := of_decide_eq_true (by first | (with_reducible assumption) | assumption)
                    have q259 : (ji21) < (t254.length : Int) := of_decide_eq_true (by first | (with_reducible assumption) | assumption)
                    obtain ⟨ad259, e259, hx259_0⟩ := Kd.at_string (Kd.R_reads' HO_7.out).2.2 (ji21) p259 q259
                    cases e259; replace p259 := eq_true p259; replace q259 := eq_true q259
                    go_wp2
                    repeat (go_quiet (fail); try go_wp2)
                    go_roundg kj6
                    case measure => have := HK1.out; have := HJ6.out; omega
                    case rel => exact ⟨(wrap64 (x9_1 + 1)), (by first | rfl | (simp; done) | (simp [*]; done)), H', ⟨by have := HK1.out; have := HJ6.out; omega⟩, ⟨by (with_reducible repeat (first | apply Kd.R_alloc | apply Kd.R_drewN | apply Kd.R_drew)); exact HO_5.out⟩, ⟨by (with_reducible repeat (first | apply Kd.R_alloc | apply Kd.R_drewN | apply Kd.R_drew)); exact HO_7.out⟩, ⟨by repeat (first | (with_reducible first | exact HB.out | apply below_alloc | apply pw_below_drewN | apply below_drew1) | exact HB.out)⟩⟩

/-! ### patchbayref4_RecordOrder: function 67 -/
mutual
def patchbayref4_RecordOrder.j0 : Nat → Bool → ByteArray → Int → Int → ByteArray → ByteArray → Int → Int → ByteArray → Option (Int)
  | 0, _, _, _, _, _, _, _, _, _ => none
  | k + 1, x14, x261000, x261001, x261002, x261003, x262000, x262001, x262002, x262003 => if x14 = true then (patchbayref4_RecordOrder.j1 k x14 x261000 x261001 x261002 x261003 x262000 x262001 x262002 x262003) else (if x261001 = x262001 then (patchbayref4_RecordOrder.j1 k (Op.bytesLess x261003.toList x262003.toList) x261000 x261001 x261002 x261003 x262000 x262001 x262002 x262003) else (patchbayref4_RecordOrder.j1 k false x261000 x261001 x261002 x261003 x262000 x262001 x262002 x262003))
def patchbayref4_RecordOrder.j1 : Nat → Bool → ByteArray → Int → Int → ByteArray → ByteArray → Int → Int → ByteArray → Option (Int)
  | 0, _, _, _, _, _, _, _, _, _ => none
  | k + 1, x14, x261000, x261001, x261002, x261003, x262000, x262001, x262002, x262003 => if x14 = true then (some (-1)) else (if x261001 = x262001 then (if x261003.toList = x262003.toList then (some 0) else (some 1)) else (some 1))
end
def patchbayref4_RecordOrder.f (k : Nat) (a0_0 : ByteArray) (a0_1 : Int) (a0_2 : Int) (a0_3 : ByteArray) (a1_0 : ByteArray) (a1_1 : Int) (a1_2 : Int) (a1_3 : ByteArray) : Option (Int) := (patchbayref4_NameOrder.f k a0_0 a1_0).bind fun t262 => (if t262 = 0 then (if a0_1 = a1_1 then (patchbayref4_RecordOrder.j0 k false a0_0 a0_1 a0_2 a0_3 a1_0 a1_1 a1_2 a1_3) else (patchbayref4_RecordOrder.j0 k (decide (a0_1 < a1_1)) a0_0 a0_1 a0_2 a0_3 a1_0 a1_1 a1_2 a1_3)) else (some t262))
theorem patchbayref4_RecordOrder.mono_l : ∀ k, (∀ y0 y1 y2 y3 y4 y5 y6 y7 y8, LeO (patchbayref4_RecordOrder.j0 k y0 y1 y2 y3 y4 y5 y6 y7 y8) (patchbayref4_RecordOrder.j0 (k + 1) y0 y1 y2 y3 y4 y5 y6 y7 y8)) ∧ (∀ y0 y1 y2 y3 y4 y5 y6 y7 y8, LeO (patchbayref4_RecordOrder.j1 k y0 y1 y2 y3 y4 y5 y6 y7 y8) (patchbayref4_RecordOrder.j1 (k + 1) y0 y1 y2 y3 y4 y5 y6 y7 y8))
  | 0 => ⟨fun _ _ _ _ _ _ _ _ _ r h => by simp [patchbayref4_RecordOrder.j0] at h, fun _ _ _ _ _ _ _ _ _ r h => by simp [patchbayref4_RecordOrder.j1] at h⟩
  | k + 1 => by
    obtain ⟨ih0, ih1⟩ := patchbayref4_RecordOrder.mono_l k
    refine ⟨?_, ?_⟩
    · intro y0 y1 y2 y3 y4 y5 y6 y7 y8
      unfold patchbayref4_RecordOrder.j0
      repeat' first
      | (with_reducible exact LeO.refl _)
      | exact ih0 _ _ _ _ _ _ _ _ _
      | exact ih1 _ _ _ _ _ _ _ _ _
      | exact patchbayref4_NameOrder.mono _ _ _
      | exact LeO.none _
      | refine LeO.ite ?_ ?_
      | refine LeO.bind ?_ (fun _ => ?_)
    · intro y0 y1 y2 y3 y4 y5 y6 y7 y8
      unfold patchbayref4_RecordOrder.j1
      repeat' first
      | (with_reducible exact LeO.refl _)
      | exact ih0 _ _ _ _ _ _ _ _ _
      | exact ih1 _ _ _ _ _ _ _ _ _
      | exact patchbayref4_NameOrder.mono _ _ _
      | exact LeO.none _
      | refine LeO.ite ?_ ?_
      | refine LeO.bind ?_ (fun _ => ?_)
theorem patchbayref4_RecordOrder.mono : ∀ a0 a1 a2 a3 a4 a5 a6 a7 k, LeO (patchbayref4_RecordOrder.f k a0 a1 a2 a3 a4 a5 a6 a7) (patchbayref4_RecordOrder.f (k + 1) a0 a1 a2 a3 a4 a5 a6 a7) := by
  intro a0 a1 a2 a3 a4 a5 a6 a7 k
  obtain ⟨ih0, ih1⟩ := patchbayref4_RecordOrder.mono_l k
  unfold patchbayref4_RecordOrder.f
  repeat' first
      | (with_reducible exact LeO.refl _)
      | exact ih0 _ _ _ _ _ _ _ _ _
      | exact ih1 _ _ _ _ _ _ _ _ _
      | exact patchbayref4_NameOrder.mono _ _ _
      | exact LeO.none _
      | refine LeO.ite ?_ ?_
      | refine LeO.bind ?_ (fun _ => ?_)
set_option maxHeartbeats 8000000 in
set_option maxRecDepth 100000 in
theorem patchbayref4_RecordOrder.calls (k : Nat) (a0_0 : ByteArray) (a0_1 : Int) (a0_2 : Int) (a0_3 : ByteArray) (a1_0 : ByteArray) (a1_1 : Int) (a1_2 : Int) (a1_3 : ByteArray) (r : Int) (w : World) (h : patchbayref4_RecordOrder.f k a0_0 a0_1 a0_2 a0_3 a1_0 a1_1 a1_2 a1_3 = some r) :
    Calls Tryd.prog 67 #[.agg #[.string a0_0, .int .i64 a0_1, .int .i64 a0_2, .string a0_3], .agg #[.string a1_0, .int .i64 a1_1, .int .i64 a1_2, .string a1_3]] w fun e w' => e = .returned (.int .i64 r) ∧ Below w.heap.size w w' := by
  have hu68 := Tryd.underlying68
  have HB := Aside0.mk (Below.refl w.heap.size w)
  have H : ((patchbayref4_NameOrder.f k a0_0 a1_0).bind fun t262 => (if t262 = 0 then (if a0_1 = a1_1 then (patchbayref4_RecordOrder.j0 k false a0_0 a0_1 a0_2 a0_3 a1_0 a1_1 a1_2 a1_3) else (patchbayref4_RecordOrder.j0 k (decide (a0_1 < a1_1)) a0_0 a0_1 a0_2 a0_3 a1_0 a1_1 a1_2 a1_3)) else (some t262))) = some r := h
  clear h; replace H := Option.bind_eq_some_iff.mp H
  obtain ⟨t262, A30, H⟩ := H
  replace H : (if t262 = 0 then (if a0_1 = a1_1 then (patchbayref4_RecordOrder.j0 k false a0_0 a0_1 a0_2 a0_3 a1_0 a1_1 a1_2 a1_3) else (patchbayref4_RecordOrder.j0 k (decide (a0_1 < a1_1)) a0_0 a0_1 a0_2 a0_3 a1_0 a1_1 a1_2 a1_3)) else (some t262)) = some r := H
  have A3 := Aside0.mk A30; clear A30
  by_cases c4 : t262 = 0
  · rw [if_pos c4] at H
    have c4b0 : (t262 == 0) = true := beq_iff_eq.mpr c4
    have c4b1 : (t262 != 0) = false := bne_eq_false_iff_eq.mpr c4
    clear c4; have HC5 := Aside0.mk H; clear H
    go_enter Tryd.func67, Tryd.ntmps67
    go_upto_region 4 with (first | ((with_reducible refine gate_dst (N := 2) rfl ?_); refine box_event ?hg (N := 2) ?hd (cs := #[.string a0_0, .int .i64 a0_1, .int .i64 a0_2, .string a0_3]) (t := 68) ?hr ?_; (case hd => rfl); (case hg => rfl); (case hr => first | (go_simp; done) | (go_simp; rfl)); intro gb260 hg w6 hbox hb; have n0_ := Aside0.mk (below_step (by repeat (first | (with_reducible first | exact HB.out | apply below_alloc | apply pw_below_drewN | apply below_drew1) | exact HB.out)) hb); have n1_ := Aside0.mk (hbox); have n2_ := Aside0.mk ((by rw [hg]; exact (below_size (by repeat (first | (with_reducible first | exact HB.out | apply below_alloc | apply pw_below_drewN | apply below_drew1) | exact HB.out))) : w.heap.size ≤ gb260)); have n3_ := Aside0.mk ((by rw [hg]; exact (below_size (by repeat (first | (with_reducible first | exact HB.out | apply below_alloc | apply pw_below_drewN | apply below_drew1) | exact HB.out))) : w.heap.size ≤ gb260)); clear HB; have HB := n0_; have BK260 := n1_; have GW260 := n2_; have GE260 := n3_; clear n0_ n1_ n2_ n3_; clear hb hbox hg) | ((with_reducible refine gate_dst (N := 3) rfl ?_); refine box_event ?hg (N := 3) ?hd (cs := #[.string a1_0, .int .i64 a1_1, .int .i64 a1_2, .string a1_3]) (t := 68) ?hr ?_; (case hd => rfl); (case hg => rfl); (case hr => first | (go_simp; done) | (go_simp; rfl)); intro gb261 hg w7 hbox hb; have n0_ := Aside0.mk (blk_below (g := gb260) (o := .cells #[.string a0_0, .int .i64 a0_1, .int .i64 a0_2, .string a0_3] 68 (0, 0)) (by (with_reducible repeat (first | refine blk_drewN ?_ _ | refine blk_drew ?_ | refine blk_alloc ?_ _)); exact BK260.out) hb); have n1_ := Aside0.mk (below_step (by repeat (first | (with_reducible first | exact HB.out | apply below_alloc | apply pw_below_drewN | apply below_drew1 | refine below_set ?_ GE260.out) | exact HB.out)) hb); have n2_ := Aside0.mk (hbox); have n3_ := Aside0.mk ((by rw [hg]; exact (below_size (by repeat (first | (with_reducible first | exact HB.out | apply below_alloc | apply pw_below_drewN | apply below_drew1 | refine below_set ?_ GE260.out) | exact HB.out))) : w.heap.size ≤ gb261)); have n4_ := Aside0.mk ((by rw [hg]; exact (below_size (by repeat (first | (with_reducible first | exact HB.out | apply below_alloc | apply pw_below_drewN | apply below_drew1 | refine below_set ?_ GE260.out) | exact HB.out))) : w.heap.size ≤ gb261)); have n5_ := Aside0.mk ((by rw [hg]; exact Nat.ne_of_lt (blk_lt (g := gb260) (o := .cells #[.string a0_0, .int .i64 a0_1, .int .i64 a0_2, .string a0_3] 68 (0, 0)) (by (with_reducible repeat (first | refine blk_drewN ?_ _ | refine blk_drew ?_ | refine blk_alloc ?_ _)); exact BK260.out)) : gb260 ≠ gb261)); have n6_ := Aside0.mk ((by rw [hg]; exact Nat.ne_of_gt (blk_lt (g := gb260) (o := .cells #[.string a0_0, .int .i64 a0_1, .int .i64 a0_2, .string a0_3] 68 (0, 0)) (by (with_reducible repeat (first | refine blk_drewN ?_ _ | refine blk_drew ?_ | refine blk_alloc ?_ _)); exact BK260.out)) : gb261 ≠ gb260)); clear BK260; clear HB; have BK260 := n0_; have HB := n1_; have BK261 := n2_; have GW261 := n3_; have GE261 := n4_; have NB260_261 := n5_; have NB261_260 := n6_; clear n0_ n1_ n2_ n3_ n4_ n5_ n6_; clear hb hbox hg; have hnb8 := NB260_261.out; have hnc8 := NB261_260.out; have hcz9_0 : w7.cell? ⟨gb260, 0, none⟩ = some (.string a0_0) := (blk_cell BK260.out 0).trans rfl; have hcz9_1 : w7.cell? ⟨gb260, 1, none⟩ = some (.int .i64 a0_1) := (blk_cell BK260.out 1).trans rfl; have hcz9_2 : w7.cell? ⟨gb260, 2, none⟩ = some (.int .i64 a0_2) := (blk_cell BK260.out 2).trans rfl; have hcz9_3 : w7.cell? ⟨gb260, 3, none⟩ = some (.string a0_3) := (blk_cell BK260.out 3).trans rfl; have hfz9_0 := blk_frozen BK260.out 0; have hfz9_1 := blk_frozen BK260.out 1; have hfz9_2 := blk_frozen BK260.out 2; have hfz9_3 := blk_frozen BK260.out 3; have hcz10_0 : w7.cell? ⟨gb261, 0, none⟩ = some (.string a1_0) := (blk_cell BK261.out 0).trans rfl; have hcz10_1 : w7.cell? ⟨gb261, 1, none⟩ = some (.int .i64 a1_1) := (blk_cell BK261.out 1).trans rfl; have hcz10_2 : w7.cell? ⟨gb261, 2, none⟩ = some (.int .i64 a1_2) := (blk_cell BK261.out 2).trans rfl; have hcz10_3 : w7.cell? ⟨gb261, 3, none⟩ = some (.string a1_3) := (blk_cell BK261.out 3).trans rfl; have hfz10_0 := blk_frozen BK261.out 0; have hfz10_1 := blk_frozen BK261.out 1; have hfz10_2 := blk_frozen BK261.out 2; have hfz10_3 := blk_frozen BK261.out 3) | ((with_reducible refine gate_callee (f := 18) rfl ?_); refine goesL_ (some 10) rfl rfl Tryd.func18 (by kernel_rfl) rfl #[.string a0_0, .string a1_0] rfl (by (try simp only [List.map_toArray, List.map_cons, List.map_nil]); first | done | rfl | (simp only [List.length_drop, List.length_take]; rfl)) ?_; (with_reducible refine (patchbayref4_NameOrder.calls k a0_0 a1_0 t262 _ A3.out).mono ?_); rintro e w11 ⟨rfl, hb⟩; refine ⟨_, rfl, ?_⟩; have n0_ := Aside0.mk (blk_below (g := gb260) (o := .cells #[.string a0_0, .int .i64 a0_1, .int .i64 a0_2, .string a0_3] 68 (0, 0)) (by (with_reducible repeat (first | refine blk_drewN ?_ _ | refine blk_drew ?_ | refine blk_alloc ?_ _)); exact BK260.out) hb); have n1_ := Aside0.mk (blk_below (g := gb261) (o := .cells #[.string a1_0, .int .i64 a1_1, .int .i64 a1_2, .string a1_3] 68 (0, 0)) (by (with_reducible repeat (first | refine blk_drewN ?_ _ | refine blk_drew ?_ | refine blk_alloc ?_ _)); exact BK261.out) hb); have n2_ := Aside0.mk (below_step (by repeat (first | (with_reducible first | exact HB.out | apply below_alloc | apply pw_below_drewN | apply below_drew1 | refine below_set ?_ GE260.out | refine below_set ?_ GE261.out) | exact HB.out)) hb); clear BK260; clear BK261; clear HB; have BK260 := n0_; have BK261 := n1_; have HB := n2_; clear n0_ n1_ n2_; (try clear hb); (try clear hb2); (try clear hk); (try clear hi)))
    (try simp only [Act.put, sA, sB, sC])
    go_cut [14] (fun v14 wc => ∃ (kq : Nat) (x14_4 : Bool), v14 = .bool x14_4 ∧ Aside0 (patchbayref4_RecordOrder.j0 kq x14_4 a0_0 a0_1 a0_2 a0_3 a1_0 a1_1 a1_2 a1_3 = some r) ∧ Aside0 (kq ≤ k) ∧ Aside0 (wc.heap[gb260]? = some (.cells #[.string a0_0, .int .i64 a0_1, .int .i64 a0_2, .string a0_3] 68 (0, 0))) ∧ Aside0 (wc.heap[gb261]? = some (.cells #[.string a1_0, .int .i64 a1_1, .int .i64 a1_2, .string a1_3] 68 (0, 0))) ∧ Aside0 (Below w.heap.size w wc))
    case first =>
      have H := HC5.out; clear HC5
      by_cases c12 : a0_1 = a1_1
      · rw [if_pos c12] at H
        have c12b0 : (a0_1 == a1_1) = true := beq_iff_eq.mpr c12
        have c12b1 : (a0_1 != a1_1) = false := bne_eq_false_iff_eq.mpr c12
        clear c12
        (first | rw [c12b0] | (simp only [i64_w, i32_w]; rw [c12b0]) | skip)
        have H' := Aside0.mk H
        clear H; have hnb13 := NB260_261.out; have hnc13 := NB261_260.out
        have hcz14_0 : w11.cell? ⟨gb260, 0, none⟩ = some (.string a0_0) := (blk_cell BK260.out 0).trans rfl
        have hcz14_1 : w11.cell? ⟨gb260, 1, none⟩ = some (.int .i64 a0_1) := (blk_cell BK260.out 1).trans rfl
        have hcz14_2 : w11.cell? ⟨gb260, 2, none⟩ = some (.int .i64 a0_2) := (blk_cell BK260.out 2).trans rfl
        have hcz14_3 : w11.cell? ⟨gb260, 3, none⟩ = some (.string a0_3) := (blk_cell BK260.out 3).trans rfl
        have hfz14_0 := blk_frozen BK260.out 0
        have hfz14_1 := blk_frozen BK260.out 1
        have hfz14_2 := blk_frozen BK260.out 2
        have hfz14_3 := blk_frozen BK260.out 3
        have hcz15_0 : w11.cell? ⟨gb261, 0, none⟩ = some (.string a1_0) := (blk_cell BK261.out 0).trans rfl
        have hcz15_1 : w11.cell? ⟨gb261, 1, none⟩ = some (.int .i64 a1_1) := (blk_cell BK261.out 1).trans rfl
        have hcz15_2 : w11.cell? ⟨gb261, 2, none⟩ = some (.int .i64 a1_2) := (blk_cell BK261.out 2).trans rfl
        have hcz15_3 : w11.cell? ⟨gb261, 3, none⟩ = some (.string a1_3) := (blk_cell BK261.out 3).trans rfl
        have hfz15_0 := blk_frozen BK261.out 0
        have hfz15_1 := blk_frozen BK261.out 1
        have hfz15_2 := blk_frozen BK261.out 2
        have hfz15_3 := blk_frozen BK261.out 3
        go_wp2
        go_meet
        case rel => exact ⟨_, (false), (by first | rfl | (simp; done) | (simp [*]; done)), (by first | exact H' | (subst_vars; exact H')), ⟨by first | omega | exact Nat.le_refl _⟩, ⟨by (with_reducible repeat (first | refine blk_drewN ?_ _ | refine blk_drew ?_ | refine blk_alloc ?_ _)); exact BK260.out⟩, ⟨by (with_reducible repeat (first | refine blk_drewN ?_ _ | refine blk_drew ?_ | refine blk_alloc ?_ _)); exact BK261.out⟩, ⟨by repeat (first | (with_reducible first | exact HB.out | apply below_alloc | apply pw_below_drewN | apply below_drew1 | refine below_set ?_ GE260.out | refine below_set ?_ GE261.out) | exact HB.out)⟩⟩
      · rw [if_neg c12] at H
        have c12b0 : (a0_1 == a1_1) = false := beq_eq_false_iff_ne.mpr c12
        have c12b1 : (a0_1 != a1_1) = true := bne_iff_ne.mpr c12
        (first | rw [c12b0] | (simp only [i64_w, i32_w]; rw [c12b0]) | skip)
        have H' := Aside0.mk H
        clear H; have hnb16 := NB260_261.out; have hnc16 := NB261_260.out
        have hcz17_0 : w11.cell? ⟨gb260, 0, none⟩ = some (.string a0_0) := (blk_cell BK260.out 0).trans rfl
        have hcz17_1 : w11.cell? ⟨gb260, 1, none⟩ = some (.int .i64 a0_1) := (blk_cell BK260.out 1).trans rfl
        have hcz17_2 : w11.cell? ⟨gb260, 2, none⟩ = some (.int .i64 a0_2) := (blk_cell BK260.out 2).trans rfl
        have hcz17_3 : w11.cell? ⟨gb260, 3, none⟩ = some (.string a0_3) := (blk_cell BK260.out 3).trans rfl
        have hfz17_0 := blk_frozen BK260.out 0
        have hfz17_1 := blk_frozen BK260.out 1
        have hfz17_2 := blk_frozen BK260.out 2
        have hfz17_3 := blk_frozen BK260.out 3
        have hcz18_0 : w11.cell? ⟨gb261, 0, none⟩ = some (.string a1_0) := (blk_cell BK261.out 0).trans rfl
        have hcz18_1 : w11.cell? ⟨gb261, 1, none⟩ = some (.int .i64 a1_1) := (blk_cell BK261.out 1).trans rfl
        have hcz18_2 : w11.cell? ⟨gb261, 2, none⟩ = some (.int .i64 a1_2) := (blk_cell BK261.out 2).trans rfl
        have hcz18_3 : w11.cell? ⟨gb261, 3, none⟩ = some (.string a1_3) := (blk_cell BK261.out 3).trans rfl
        have hfz18_0 := blk_frozen BK261.out 0
        have hfz18_1 := blk_frozen BK261.out 1
        have hfz18_2 := blk_frozen BK261.out 2
        have hfz18_3 := blk_frozen BK261.out 3
        go_wp2
        go_meet
        case rel => exact ⟨_, (decide (a0_1 < a1_1)), (by first | rfl | (simp; done) | (simp [*]; done)), (by first | exact H' | (subst_vars; exact H')), ⟨by first | omega | exact Nat.le_refl _⟩, ⟨by (with_reducible repeat (first | refine blk_drewN ?_ _ | refine blk_drew ?_ | refine blk_alloc ?_ _)); exact BK260.out⟩, ⟨by (with_reducible repeat (first | refine blk_drewN ?_ _ | refine blk_drew ?_ | refine blk_alloc ?_ _)); exact BK261.out⟩, ⟨by repeat (first | (with_reducible first | exact HB.out | apply below_alloc | apply pw_below_drewN | apply below_drew1 | refine below_set ?_ GE260.out | refine below_set ?_ GE261.out) | exact HB.out)⟩⟩
    case rest =>
      clear HC5; (try clear c1); (try clear p2); (try clear c4); (try clear c4b0); (try clear c4b1); (try clear c6); (try clear c8); (try clear c12); (try clear c12b0); (try clear c12b1); (try clear c13); (try clear c16); (try clear c18); (try clear hcz10_0); (try clear hcz10_1); (try clear hcz10_2); (try clear hcz10_3); (try clear hcz14_0); (try clear hcz14_1); (try clear hcz14_2); (try clear hcz14_3); (try clear hcz15_0); (try clear hcz15_1); (try clear hcz15_2); (try clear hcz15_3); (try clear hcz17_0); (try clear hcz17_1); (try clear hcz17_2); (try clear hcz17_3); (try clear hcz18_0); (try clear hcz18_1); (try clear hcz18_2); (try clear hcz18_3); (try clear hcz9_0); (try clear hcz9_1); (try clear hcz9_2); (try clear hcz9_3); (try clear hfz10_0); (try clear hfz10_1); (try clear hfz10_2); (try clear hfz10_3); (try clear hfz14_0); (try clear hfz14_1); (try clear hfz14_2); (try clear hfz14_3); (try clear hfz15_0); (try clear hfz15_1); (try clear hfz15_2); (try clear hfz15_3); (try clear hfz17_0); (try clear hfz17_1); (try clear hfz17_2); (try clear hfz17_3); (try clear hfz18_0); (try clear hfz18_1); (try clear hfz18_2); (try clear hfz18_3); (try clear hfz9_0); (try clear hfz9_1); (try clear hfz9_2); (try clear hfz9_3)
      obtain ⟨kq, x14_4, rfl, HA, HJ4, BK260, BK261, HB⟩ := hcut
      cases kq with
      | zero => exact absurd HA.out (by simp [patchbayref4_RecordOrder.j0])
      | succ kj4 =>
        have H := HA.out; clear HA
        simp only [patchbayref4_RecordOrder.j0] at H
        have HC19 := Aside0.mk H; clear H
        go_upto_if 14 with (fail)
        go_cut [14] (fun v14 wc => ∃ (kq : Nat) (x14_18 : Bool), v14 = .bool x14_18 ∧ Aside0 (patchbayref4_RecordOrder.j1 kq x14_18 a0_0 a0_1 a0_2 a0_3 a1_0 a1_1 a1_2 a1_3 = some r) ∧ Aside0 (kq ≤ kj4) ∧ Aside0 (wc.heap[gb260]? = some (.cells #[.string a0_0, .int .i64 a0_1, .int .i64 a0_2, .string a0_3] 68 (0, 0))) ∧ Aside0 (wc.heap[gb261]? = some (.cells #[.string a1_0, .int .i64 a1_1, .int .i64 a1_2, .string a1_3] 68 (0, 0))) ∧ Aside0 (Below w.heap.size w wc))
        case first =>
          have H := HC19.out; clear HC19
          by_cases c20 : x14_4 = true
          · subst c20
            have H1 : (patchbayref4_RecordOrder.j1 kj4 true a0_0 a0_1 a0_2 a0_3 a1_0 a1_1 a1_2 a1_3) = some r := by rw [if_pos rfl] at H; exact H
            clear H; have H := H1; clear H1
            have H' := Aside0.mk H
            clear H
            go_wp2
            go_meet
            case rel => exact ⟨_, (true), (by first | rfl | (simp; done) | (simp [*]; done)), (by first | exact H' | (subst_vars; exact H')), ⟨by have := HJ4.out; first | omega | exact Nat.le_refl _⟩, ⟨by (with_reducible repeat (first | refine blk_drewN ?_ _ | refine blk_drew ?_ | refine blk_alloc ?_ _)); exact BK260.out⟩, ⟨by (with_reducible repeat (first | refine blk_drewN ?_ _ | refine blk_drew ?_ | refine blk_alloc ?_ _)); exact BK261.out⟩, ⟨by repeat (first | (with_reducible first | exact HB.out | apply below_alloc | apply pw_below_drewN | apply below_drew1 | refine below_set ?_ GE260.out | refine below_set ?_ GE261.out) | exact HB.out)⟩⟩
          · replace c20 := Bool.eq_false_iff.mpr c20
            subst c20
            have H1 : (if a0_1 = a1_1 then (patchbayref4_RecordOrder.j1 kj4 (Op.bytesLess a0_3.toList a1_3.toList) a0_0 a0_1 a0_2 a0_3 a1_0 a1_1 a1_2 a1_3) else (patchbayref4_RecordOrder.j1 kj4 false a0_0 a0_1 a0_2 a0_3 a1_0 a1_1 a1_2 a1_3)) = some r := by rw [if_neg (show ¬ (false = true) by decide)] at H; exact H
            clear H; have H := H1; clear H1
            by_cases c21 : a0_1 = a1_1
            · rw [if_pos c21] at H
              have c21b0 : (a0_1 == a1_1) = true := beq_iff_eq.mpr c21
              have c21b1 : (a0_1 != a1_1) = false := bne_eq_false_iff_eq.mpr c21
              clear c21
              (first | rw [c21b0] | (simp only [i64_w, i32_w]; rw [c21b0]) | skip)
              have H' := Aside0.mk H
              clear H; have hnb22 := NB260_261.out; have hnc22 := NB261_260.out
              have hcz23_0 : wc.cell? ⟨gb260, 0, none⟩ = some (.string a0_0) := (blk_cell BK260.out 0).trans rfl
              have hcz23_1 : wc.cell? ⟨gb260, 1, none⟩ = some (.int .i64 a0_1) := (blk_cell BK260.out 1).trans rfl
              have hcz23_2 : wc.cell? ⟨gb260, 2, none⟩ = some (.int .i64 a0_2) := (blk_cell BK260.out 2).trans rfl
              have hcz23_3 : wc.cell? ⟨gb260, 3, none⟩ = some (.string a0_3) := (blk_cell BK260.out 3).trans rfl
              have hfz23_0 := blk_frozen BK260.out 0
              have hfz23_1 := blk_frozen BK260.out 1
              have hfz23_2 := blk_frozen BK260.out 2
              have hfz23_3 := blk_frozen BK260.out 3
              have hcz24_0 : wc.cell? ⟨gb261, 0, none⟩ = some (.string a1_0) := (blk_cell BK261.out 0).trans rfl
              have hcz24_1 : wc.cell? ⟨gb261, 1, none⟩ = some (.int .i64 a1_1) := (blk_cell BK261.out 1).trans rfl
              have hcz24_2 : wc.cell? ⟨gb261, 2, none⟩ = some (.int .i64 a1_2) := (blk_cell BK261.out 2).trans rfl
              have hcz24_3 : wc.cell? ⟨gb261, 3, none⟩ = some (.string a1_3) := (blk_cell BK261.out 3).trans rfl
              have hfz24_0 := blk_frozen BK261.out 0
              have hfz24_1 := blk_frozen BK261.out 1
              have hfz24_2 := blk_frozen BK261.out 2
              have hfz24_3 := blk_frozen BK261.out 3
              go_wp2
              go_meet
              case rel => exact ⟨_, ((Op.bytesLess a0_3.toList a1_3.toList)), (by first | rfl | (simp; done) | (simp [*]; done)), (by first | exact H' | (subst_vars; exact H')), ⟨by have := HJ4.out; first | omega | exact Nat.le_refl _⟩, ⟨by (with_reducible repeat (first | refine blk_drewN ?_ _ | refine blk_drew ?_ | refine blk_alloc ?_ _)); exact BK260.out⟩, ⟨by (with_reducible repeat (first | refine blk_drewN ?_ _ | refine blk_drew ?_ | refine blk_alloc ?_ _)); exact BK261.out⟩, ⟨by repeat (first | (with_reducible first | exact HB.out | apply below_alloc | apply pw_below_drewN | apply below_drew1 | refine below_set ?_ GE260.out | refine below_set ?_ GE261.out) | exact HB.out)⟩⟩
            · rw [if_neg c21] at H
              have c21b0 : (a0_1 == a1_1) = false := beq_eq_false_iff_ne.mpr c21
              have c21b1 : (a0_1 != a1_1) = true := bne_iff_ne.mpr c21
              (first | rw [c21b0] | (simp only [i64_w, i32_w]; rw [c21b0]) | skip)
              have H' := Aside0.mk H
              clear H; have hnb25 := NB260_261.out; have hnc25 := NB261_260.out
              have hcz26_0 : wc.cell? ⟨gb260, 0, none⟩ = some (.string a0_0) := (blk_cell BK260.out 0).trans rfl
              have hcz26_1 : wc.cell? ⟨gb260, 1, none⟩ = some (.int .i64 a0_1) := (blk_cell BK260.out 1).trans rfl
              have hcz26_2 : wc.cell? ⟨gb260, 2, none⟩ = some (.int .i64 a0_2) := (blk_cell BK260.out 2).trans rfl
              have hcz26_3 : wc.cell? ⟨gb260, 3, none⟩ = some (.string a0_3) := (blk_cell BK260.out 3).trans rfl
              have hfz26_0 := blk_frozen BK260.out 0
              have hfz26_1 := blk_frozen BK260.out 1
              have hfz26_2 := blk_frozen BK260.out 2
              have hfz26_3 := blk_frozen BK260.out 3
              have hcz27_0 : wc.cell? ⟨gb261, 0, none⟩ = some (.string a1_0) := (blk_cell BK261.out 0).trans rfl
              have hcz27_1 : wc.cell? ⟨gb261, 1, none⟩ = some (.int .i64 a1_1) := (blk_cell BK261.out 1).trans rfl
              have hcz27_2 : wc.cell? ⟨gb261, 2, none⟩ = some (.int .i64 a1_2) := (blk_cell BK261.out 2).trans rfl
              have hcz27_3 : wc.cell? ⟨gb261, 3, none⟩ = some (.string a1_3) := (blk_cell BK261.out 3).trans rfl
              have hfz27_0 := blk_frozen BK261.out 0
              have hfz27_1 := blk_frozen BK261.out 1
              have hfz27_2 := blk_frozen BK261.out 2
              have hfz27_3 := blk_frozen BK261.out 3
              go_wp2
              go_meet
              case rel => exact ⟨_, (false), (by first | rfl | (simp; done) | (simp [*]; done)), (by first | exact H' | (subst_vars; exact H')), ⟨by have := HJ4.out; first | omega | exact Nat.le_refl _⟩, ⟨by (with_reducible repeat (first | refine blk_drewN ?_ _ | refine blk_drew ?_ | refine blk_alloc ?_ _)); exact BK260.out⟩, ⟨by (with_reducible repeat (first | refine blk_drewN ?_ _ | refine blk_drew ?_ | refine blk_alloc ?_ _)); exact BK261.out⟩, ⟨by repeat (first | (with_reducible first | exact HB.out | apply below_alloc | apply pw_below_drewN | apply below_drew1 | refine below_set ?_ GE260.out | refine below_set ?_ GE261.out) | exact HB.out)⟩⟩
        case rest =>
          clear HC19; (try clear c1); (try clear c2); (try clear p2); (try clear c4); (try clear c4b0); (try clear c4b1); (try clear c6); (try clear c8); (try clear c12); (try clear c12b0); (try clear c12b1); (try clear c13); (try clear c16); (try clear c18); (try clear c20); (try clear c21); (try clear c21b0); (try clear c21b1); (try clear c22); (try clear c25); (try clear hcz10_0); (try clear hcz10_1); (try clear hcz10_2); (try clear hcz10_3); (try clear hcz14_0); (try clear hcz14_1); (try clear hcz14_2); (try clear hcz14_3); (try clear hcz15_0); (try clear hcz15_1); (try clear hcz15_2); (try clear hcz15_3); (try clear hcz17_0); (try clear hcz17_1); (try clear hcz17_2); (try clear hcz17_3); (try clear hcz18_0); (try clear hcz18_1); (try clear hcz18_2); (try clear hcz18_3); (try clear hcz23_0); (try clear hcz23_1); (try clear hcz23_2); (try clear hcz23_3); (try clear hcz24_0); (try clear hcz24_1); (try clear hcz24_2); (try clear hcz24_3); (try clear hcz26_0); (try clear hcz26_1); (try clear hcz26_2); (try clear hcz26_3); (try clear hcz27_0); (try clear hcz27_1); (try clear hcz27_2); (try clear hcz27_3); (try clear hcz9_0); (try clear hcz9_1); (try clear hcz9_2); (try clear hcz9_3); (try clear hfz10_0); (try clear hfz10_1); (try clear hfz10_2); (try clear hfz10_3); (try clear hfz14_0); (try clear hfz14_1); (try clear hfz14_2); (try clear hfz14_3); (try clear hfz15_0); (try clear hfz15_1); (try clear hfz15_2); (try clear hfz15_3); (try clear hfz17_0); (try clear hfz17_1); (try clear hfz17_2); (try clear hfz17_3); (try clear hfz18_0); (try clear hfz18_1); (try clear hfz18_2); (try clear hfz18_3); (try clear hfz23_0); (try clear hfz23_1); (try clear hfz23_2); (try clear hfz23_3); (try clear hfz24_0); (try clear hfz24_1); (try clear hfz24_2); (try clear hfz24_3); (try clear hfz26_0); (try clear hfz26_1); (try clear hfz26_2); (try clear hfz26_3); (try clear hfz27_0); (try clear hfz27_1); (try clear hfz27_2); (try clear hfz27_3); (try clear hfz9_0); (try clear hfz9_1); (try clear hfz9_2); (try clear hfz9_3); (try clear p2)
          obtain ⟨kq, x14_18, rfl, HA, HJ18, BK260, BK261, HB⟩ := hcut
          cases kq with
          | zero => exact absurd HA.out (by simp [patchbayref4_RecordOrder.j1])
          | succ kj18 =>
            have H := HA.out; clear HA
            simp only [patchbayref4_RecordOrder.j1] at H
            by_cases c28 : x14_18 = true
            · subst c28
              have H1 : (some (-1)) = some r := by rw [if_pos rfl] at H; exact H
              clear H; have H := H1; clear H1; obtain rfl := Option.some.inj H
              go_wp2
              go_ret
              exact ⟨by first | rfl | (simp [errW_none, errW_some] <;> rfl) | (simp [*, errW_none, errW_some] <;> rfl), by repeat (first | (with_reducible first | exact HB.out | apply below_alloc | apply pw_below_drewN | apply below_drew1 | refine below_set ?_ GE260.out | refine below_set ?_ GE261.out) | exact HB.out)⟩
            · replace c28 := Bool.eq_false_iff.mpr c28
              subst c28
              have H1 : (if a0_1 = a1_1 then (if a0_3.toList = a1_3.toList then (some 0) else (some 1)) else (some 1)) = some r := by rw [if_neg (show ¬ (false = true) by decide)] at H; exact H
              clear H; have H := H1; clear H1
              by_cases c29 : a0_1 = a1_1
              · rw [if_pos c29] at H
                have c29b0 : (a0_1 == a1_1) = true := beq_iff_eq.mpr c29
                have c29b1 : (a0_1 != a1_1) = false := bne_eq_false_iff_eq.mpr c29
                clear c29
                by_cases c30 : a0_3.toList = a1_3.toList
                · rw [if_pos c30] at H
                  have c30b0 : (a0_3.toList == a1_3.toList) = true := beq_iff_eq.mpr c30
                  have c30b1 : (a0_3.toList != a1_3.toList) = false := bne_eq_false_iff_eq.mpr c30
                  clear c30; obtain rfl := Option.some.inj H; have hnb31 := NB260_261.out; have hnc31 := NB261_260.out
                  have hcz32_0 : wc.cell? ⟨gb260, 0, none⟩ = some (.string a0_0) := (blk_cell BK260.out 0).trans rfl
                  have hcz32_1 : wc.cell? ⟨gb260, 1, none⟩ = some (.int .i64 a0_1) := (blk_cell BK260.out 1).trans rfl
                  have hcz32_2 : wc.cell? ⟨gb260, 2, none⟩ = some (.int .i64 a0_2) := (blk_cell BK260.out 2).trans rfl
                  have hcz32_3 : wc.cell? ⟨gb260, 3, none⟩ = some (.string a0_3) := (blk_cell BK260.out 3).trans rfl
                  have hfz32_0 := blk_frozen BK260.out 0
                  have hfz32_1 := blk_frozen BK260.out 1
                  have hfz32_2 := blk_frozen BK260.out 2
                  have hfz32_3 := blk_frozen BK260.out 3
                  have hcz33_0 : wc.cell? ⟨gb261, 0, none⟩ = some (.string a1_0) := (blk_cell BK261.out 0).trans rfl
                  have hcz33_1 : wc.cell? ⟨gb261, 1, none⟩ = some (.int .i64 a1_1) := (blk_cell BK261.out 1).trans rfl
                  have hcz33_2 : wc.cell? ⟨gb261, 2, none⟩ = some (.int .i64 a1_2) := (blk_cell BK261.out 2).trans rfl
                  have hcz33_3 : wc.cell? ⟨gb261, 3, none⟩ = some (.string a1_3) := (blk_cell BK261.out 3).trans rfl
                  have hfz33_0 := blk_frozen BK261.out 0
                  have hfz33_1 := blk_frozen BK261.out 1
                  have hfz33_2 := blk_frozen BK261.out 2
                  have hfz33_3 := blk_frozen BK261.out 3
                  go_wp2
                  go_ret
                  exact ⟨by first | rfl | (simp [errW_none, errW_some] <;> rfl) | (simp [*, errW_none, errW_some] <;> rfl), by repeat (first | (with_reducible first | exact HB.out | apply below_alloc | apply pw_below_drewN | apply below_drew1 | refine below_set ?_ GE260.out | refine below_set ?_ GE261.out) | exact HB.out)⟩
                · rw [if_neg c30] at H
                  have c30b0 : (a0_3.toList == a1_3.toList) = false := beq_eq_false_iff_ne.mpr c30
                  have c30b1 : (a0_3.toList != a1_3.toList) = true := bne_iff_ne.mpr c30
                  obtain rfl := Option.some.inj H; have hnb34 := NB260_261.out; have hnc34 := NB261_260.out
                  have hcz35_0 : wc.cell? ⟨gb260, 0, none⟩ = some (.string a0_0) := (blk_cell BK260.out 0).trans rfl
                  have hcz35_1 : wc.cell? ⟨gb260, 1, none⟩ = some (.int .i64 a0_1) := (blk_cell BK260.out 1).trans rfl
                  have hcz35_2 : wc.cell? ⟨gb260, 2, none⟩ = some (.int .i64 a0_2) := (blk_cell BK260.out 2).trans rfl
                  have hcz35_3 : wc.cell? ⟨gb260, 3, none⟩ = some (.string a0_3) := (blk_cell BK260.out 3).trans rfl
                  have hfz35_0 := blk_frozen BK260.out 0
                  have hfz35_1 := blk_frozen BK260.out 1
                  have hfz35_2 := blk_frozen BK260.out 2
                  have hfz35_3 := blk_frozen BK260.out 3
                  have hcz36_0 : wc.cell? ⟨gb261, 0, none⟩ = some (.string a1_0) := (blk_cell BK261.out 0).trans rfl
                  have hcz36_1 : wc.cell? ⟨gb261, 1, none⟩ = some (.int .i64 a1_1) := (blk_cell BK261.out 1).trans rfl
                  have hcz36_2 : wc.cell? ⟨gb261, 2, none⟩ = some (.int .i64 a1_2) := (blk_cell BK261.out 2).trans rfl
                  have hcz36_3 : wc.cell? ⟨gb261, 3, none⟩ = some (.string a1_3) := (blk_cell BK261.out 3).trans rfl
                  have hfz36_0 := blk_frozen BK261.out 0
                  have hfz36_1 := blk_frozen BK261.out 1
                  have hfz36_2 := blk_frozen BK261.out 2
                  have hfz36_3 := blk_frozen BK261.out 3
                  go_wp2
                  go_ret
                  exact ⟨by first | rfl | (simp [errW_none, errW_some] <;> rfl) | (simp [*, errW_none, errW_some] <;> rfl), by repeat (first | (with_reducible first | exact HB.out | apply below_alloc | apply pw_below_drewN | apply below_drew1 | refine below_set ?_ GE260.out | refine below_set ?_ GE261.out) | exact HB.out)⟩
              · rw [if_neg c29] at H
                have c29b0 : (a0_1 == a1_1) = false := beq_eq_false_iff_ne.mpr c29
                have c29b1 : (a0_1 != a1_1) = true := bne_iff_ne.mpr c29
                obtain rfl := Option.some.inj H; have hnb37 := NB260_261.out; have hnc37 := NB261_260.out
                have hcz38_0 : wc.cell? ⟨gb260, 0, none⟩ = some (.string a0_0) := (blk_cell BK260.out 0).trans rfl
                have hcz38_1 : wc.cell? ⟨gb260, 1, none⟩ = some (.int .i64 a0_1) := (blk_cell BK260.out 1).trans rfl
                have hcz38_2 : wc.cell? ⟨gb260, 2, none⟩ = some (.int .i64 a0_2) := (blk_cell BK260.out 2).trans rfl
                have hcz38_3 : wc.cell? ⟨gb260, 3, none⟩ = some (.string a0_3) := (blk_cell BK260.out 3).trans rfl
                have hfz38_0 := blk_frozen BK260.out 0
                have hfz38_1 := blk_frozen BK260.out 1
                have hfz38_2 := blk_frozen BK260.out 2
                have hfz38_3 := blk_frozen BK260.out 3
                have hcz39_0 : wc.cell? ⟨gb261, 0, none⟩ = some (.string a1_0) := (blk_cell BK261.out 0).trans rfl
                have hcz39_1 : wc.cell? ⟨gb261, 1, none⟩ = some (.int .i64 a1_1) := (blk_cell BK261.out 1).trans rfl
                have hcz39_2 : wc.cell? ⟨gb261, 2, none⟩ = some (.int .i64 a1_2) := (blk_cell BK261.out 2).trans rfl
                have hcz39_3 : wc.cell? ⟨gb261, 3, none⟩ = some (.string a1_3) := (blk_cell BK261.out 3).trans rfl
                have hfz39_0 := blk_frozen BK261.out 0
                have hfz39_1 := blk_frozen BK261.out 1
                have hfz39_2 := blk_frozen BK261.out 2
                have hfz39_3 := blk_frozen BK261.out 3
                go_wp2
                go_ret
                exact ⟨by first | rfl | (simp [errW_none, errW_some] <;> rfl) | (simp [*, errW_none, errW_some] <;> rfl), by repeat (first | (with_reducible first | exact HB.out | apply below_alloc | apply pw_below_drewN | apply below_drew1 | refine below_set ?_ GE260.out | refine below_set ?_ GE261.out) | exact HB.out)⟩
  · rw [if_neg c4] at H
    have c4b0 : (t262 == 0) = false := beq_eq_false_iff_ne.mpr c4
    have c4b1 : (t262 != 0) = true := bne_iff_ne.mpr c4
    obtain rfl := Option.some.inj H
    go_enter Tryd.func67, Tryd.ntmps67
    go_wp2_with (first | ((with_reducible refine gate_dst (N := 2) rfl ?_); refine box_event ?hg (N := 2) ?hd (cs := #[.string a0_0, .int .i64 a0_1, .int .i64 a0_2, .string a0_3]) (t := 68) ?hr ?_; (case hd => rfl); (case hg => rfl); (case hr => first | (go_simp; done) | (go_simp; rfl)); intro gb260 hg w40 hbox hb; have n0_ := Aside0.mk (below_step (by repeat (first | (with_reducible first | exact HB.out | apply below_alloc | apply pw_below_drewN | apply below_drew1) | exact HB.out)) hb); have n1_ := Aside0.mk (hbox); have n2_ := Aside0.mk ((by rw [hg]; exact (below_size (by repeat (first | (with_reducible first | exact HB.out | apply below_alloc | apply pw_below_drewN | apply below_drew1) | exact HB.out))) : w.heap.size ≤ gb260)); have n3_ := Aside0.mk ((by rw [hg]; exact (below_size (by repeat (first | (with_reducible first | exact HB.out | apply below_alloc | apply pw_below_drewN | apply below_drew1) | exact HB.out))) : w.heap.size ≤ gb260)); clear HB; have HB := n0_; have BK260 := n1_; have GW260 := n2_; have GE260 := n3_; clear n0_ n1_ n2_ n3_; clear hb hbox hg) | ((with_reducible refine gate_dst (N := 3) rfl ?_); refine box_event ?hg (N := 3) ?hd (cs := #[.string a1_0, .int .i64 a1_1, .int .i64 a1_2, .string a1_3]) (t := 68) ?hr ?_; (case hd => rfl); (case hg => rfl); (case hr => first | (go_simp; done) | (go_simp; rfl)); intro gb261 hg w41 hbox hb; have n0_ := Aside0.mk (blk_below (g := gb260) (o := .cells #[.string a0_0, .int .i64 a0_1, .int .i64 a0_2, .string a0_3] 68 (0, 0)) (by (with_reducible repeat (first | refine blk_drewN ?_ _ | refine blk_drew ?_ | refine blk_alloc ?_ _)); exact BK260.out) hb); have n1_ := Aside0.mk (below_step (by repeat (first | (with_reducible first | exact HB.out | apply below_alloc | apply pw_below_drewN | apply below_drew1 | refine below_set ?_ GE260.out) | exact HB.out)) hb); have n2_ := Aside0.mk (hbox); have n3_ := Aside0.mk ((by rw [hg]; exact (below_size (by repeat (first | (with_reducible first | exact HB.out | apply below_alloc | apply pw_below_drewN | apply below_drew1 | refine below_set ?_ GE260.out) | exact HB.out))) : w.heap.size ≤ gb261)); have n4_ := Aside0.mk ((by rw [hg]; exact (below_size (by repeat (first | (with_reducible first | exact HB.out | apply below_alloc | apply pw_below_drewN | apply below_drew1 | refine below_set ?_ GE260.out) | exact HB.out))) : w.heap.size ≤ gb261)); have n5_ := Aside0.mk ((by rw [hg]; exact Nat.ne_of_lt (blk_lt (g := gb260) (o := .cells #[.string a0_0, .int .i64 a0_1, .int .i64 a0_2, .string a0_3] 68 (0, 0)) (by (with_reducible repeat (first | refine blk_drewN ?_ _ | refine blk_drew ?_ | refine blk_alloc ?_ _)); exact BK260.out)) : gb260 ≠ gb261)); have n6_ := Aside0.mk ((by rw [hg]; exact Nat.ne_of_gt (blk_lt (g := gb260) (o := .cells #[.string a0_0, .int .i64 a0_1, .int .i64 a0_2, .string a0_3] 68 (0, 0)) (by (with_reducible repeat (first | refine blk_drewN ?_ _ | refine blk_drew ?_ | refine blk_alloc ?_ _)); exact BK260.out)) : gb261 ≠ gb260)); clear BK260; clear HB; have BK260 := n0_; have HB := n1_; have BK261 := n2_; have GW261 := n3_; have GE261 := n4_; have NB260_261 := n5_; have NB261_260 := n6_; clear n0_ n1_ n2_ n3_ n4_ n5_ n6_; clear hb hbox hg; have hnb42 := NB260_261.out; have hnc42 := NB261_260.out; have hcz43_0 : w41.cell? ⟨gb260, 0, none⟩ = some (.string a0_0) := (blk_cell BK260.out 0).trans rfl; have hcz43_1 : w41.cell? ⟨gb260, 1, none⟩ = some (.int .i64 a0_1) := (blk_cell BK260.out 1).trans rfl; have hcz43_2 : w41.cell? ⟨gb260, 2, none⟩ = some (.int .i64 a0_2) := (blk_cell BK260.out 2).trans rfl; have hcz43_3 : w41.cell? ⟨gb260, 3, none⟩ = some (.string a0_3) := (blk_cell BK260.out 3).trans rfl; have hfz43_0 := blk_frozen BK260.out 0; have hfz43_1 := blk_frozen BK260.out 1; have hfz43_2 := blk_frozen BK260.out 2; have hfz43_3 := blk_frozen BK260.out 3; have hcz44_0 : w41.cell? ⟨gb261, 0, none⟩ = some (.string a1_0) := (blk_cell BK261.out 0).trans rfl; have hcz44_1 : w41.cell? ⟨gb261, 1, none⟩ = some (.int .i64 a1_1) := (blk_cell BK261.out 1).trans rfl; have hcz44_2 : w41.cell? ⟨gb261, 2, none⟩ = some (.int .i64 a1_2) := (blk_cell BK261.out 2).trans rfl; have hcz44_3 : w41.cell? ⟨gb261, 3, none⟩ = some (.string a1_3) := (blk_cell BK261.out 3).trans rfl; have hfz44_0 := blk_frozen BK261.out 0; have hfz44_1 := blk_frozen BK261.out 1; have hfz44_2 := blk_frozen BK261.out 2; have hfz44_3 := blk_frozen BK261.out 3) | ((with_reducible refine gate_callee (f := 18) rfl ?_); refine goesL_ (some 10) rfl rfl Tryd.func18 (by kernel_rfl) rfl #[.string a0_0, .string a1_0] rfl (by (try simp only [List.map_toArray, List.map_cons, List.map_nil]); first | done | rfl | (simp only [List.length_drop, List.length_take]; rfl)) ?_; (with_reducible refine (patchbayref4_NameOrder.calls k a0_0 a1_0 t262 _ A3.out).mono ?_); rintro e w45 ⟨rfl, hb⟩; refine ⟨_, rfl, ?_⟩; have n0_ := Aside0.mk (blk_below (g := gb260) (o := .cells #[.string a0_0, .int .i64 a0_1, .int .i64 a0_2, .string a0_3] 68 (0, 0)) (by (with_reducible repeat (first | refine blk_drewN ?_ _ | refine blk_drew ?_ | refine blk_alloc ?_ _)); exact BK260.out) hb); have n1_ := Aside0.mk (blk_below (g := gb261) (o := .cells #[.string a1_0, .int .i64 a1_1, .int .i64 a1_2, .string a1_3] 68 (0, 0)) (by (with_reducible repeat (first | refine blk_drewN ?_ _ | refine blk_drew ?_ | refine blk_alloc ?_ _)); exact BK261.out) hb); have n2_ := Aside0.mk (below_step (by repeat (first | (with_reducible first | exact HB.out | apply below_alloc | apply pw_below_drewN | apply below_drew1 | refine below_set ?_ GE260.out | refine below_set ?_ GE261.out) | exact HB.out)) hb); clear BK260; clear BK261; clear HB; have BK260 := n0_; have BK261 := n1_; have HB := n2_; clear n0_ n1_ n2_; (try clear hb); (try clear hb2); (try clear hk); (try clear hi)))
    go_ret
    exact ⟨by first | rfl | (simp [errW_none, errW_some] <;> rfl) | (simp [*, errW_none, errW_some] <;> rfl), by repeat (first | (with_reducible first | exact HB.out | apply below_alloc | apply pw_below_drewN | apply below_drew1 | refine below_set ?_ GE260.out | refine below_set ?_ GE261.out) | exact HB.out)⟩

end Go.Proofs.YtbcocpaeehgmnaaDoor.Zone
