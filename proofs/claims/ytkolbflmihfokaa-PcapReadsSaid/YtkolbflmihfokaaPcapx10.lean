/- Printed by a program of this seat's session: what the Go functions compute, and that they do. -/
import Derived.Test.YtkolbflmihfokaaPcapx0
import Derived.Test.YtkolbflmihfokaaPcapx7
import Derived.Test.YtkolbflmihfokaaPcapx8
import Derived.Test.YtkolbflmihfokaaPcapx9
import Derived.WalkSpells
namespace Go.Proofs.Ytkolbflmihfokaa.Pcap
open Go.RowKit Go.Proofs.YtkolbflmihfokaaW.PrintWords Go.Proofs.YtkolbflmihfokaaW.PrintLast Go.Proofs.YtkolbflmihfokaaW.PrintMore
attribute [local go_sem] max2_int min2_int max_two min_two max_three min_three max_four min_four   -- for this text's walks alone
set_option linter.unusedVariables false
set_option linter.unusedSimpArgs false
set_option maxRecDepth 100000

/-! ### patchbaylaw4_PcapReads: function 8 -/
def patchbaylaw4_PcapReads.j0 : Nat → List (S26) → Int → Int → Bool → Option (Bool)
  | 0, _, _, _, _ => none
  | k + 1, x5, x6, x10, x85 => if x85 = true then (if x6 = 9 then (some ((x5.length : Int) == 0)) else (some false)) else (if x6 = x10 then (some ((x5.length : Int) == 0)) else (some false))
def patchbaylaw4_PcapReads.f (k : Nat) (a0 : ByteArray) : Option (Bool) := (pcap_Read.f k (⟨#[]⟩ : ByteArray)).bind fun bt188 => (if bt188.2 = 9 then (if 0 ≤ (mn (a0.size : Int) 3000) then (if (mn (a0.size : Int) 3000) ≤ (a0.size : Int) then ((pcap_Read.f k (a0.extract 0 ((mn (a0.size : Int) 3000) : Int).toNat)).bind fun bt192 => ((patchbayref4_CaptureFront.f k (a0.extract 0 ((mn (a0.size : Int) 3000) : Int).toNat)).bind fun bt196 => (if ((a0.extract 0 ((mn (a0.size : Int) 3000) : Int).toNat).size : Int) < 4 then (if bt192.2 = 9 then (some ((bt192.1.length : Int) == 0)) else (some false)) else (if bt196.2 = 0 then (if bt192.2 = 3 then (some ((bt192.1.length : Int) == 0)) else (some false)) else (if bt196.2 = ((a0.extract 0 ((mn (a0.size : Int) 3000) : Int).toNat).size : Int) then (if bt192.2 = 0 then ((patchbayref4_SameCapture.f k bt192.1 bt196.1).bind fun t200 => (some t200)) else (some false)) else (if 0 ≤ bt196.2 then (if bt196.2 ≤ ((a0.extract 0 ((mn (a0.size : Int) 3000) : Int).toNat).size : Int) then (if (((a0.extract 0 ((mn (a0.size : Int) 3000) : Int).toNat).extract (bt196.2 : Int).toNat (a0.extract 0 ((mn (a0.size : Int) 3000) : Int).toNat).size).size : Int) < 12 then (patchbaylaw4_PcapReads.j0 k bt192.1 bt192.2 8 true) else (if 6 ≤ 8 then (if 8 ≤ (((a0.extract 0 ((mn (a0.size : Int) 3000) : Int).toNat).extract (bt196.2 : Int).toNat (a0.extract 0 ((mn (a0.size : Int) 3000) : Int).toNat).size).size : Int) then ((patchbayref4_Small.f k (((a0.extract 0 ((mn (a0.size : Int) 3000) : Int).toNat).extract (bt196.2 : Int).toNat (a0.extract 0 ((mn (a0.size : Int) 3000) : Int).toNat).size).extract 6 8)).bind fun t201 => (if t201 ≤ 2000 then ((patchbayref4_Small.f k (((a0.extract 0 ((mn (a0.size : Int) 3000) : Int).toNat).extract (bt196.2 : Int).toNat (a0.extract 0 ((mn (a0.size : Int) 3000) : Int).toNat).size).extract 6 8)).bind fun t202 => (patchbaylaw4_PcapReads.j0 k bt192.1 bt192.2 8 (decide ((((a0.extract 0 ((mn (a0.size : Int) 3000) : Int).toNat).extract (bt196.2 : Int).toNat (a0.extract 0 ((mn (a0.size : Int) 3000) : Int).toNat).size).size : Int) < (wrap64 (12 + t202)))))) else (patchbaylaw4_PcapReads.j0 k bt192.1 bt192.2 8 false))) else (none)) else (none))) else (none)) else (none))))))) else (none)) else (none)) else (some false))
theorem patchbaylaw4_PcapReads.mono_l : ∀ k, (∀ y0 y1 y2 y3, LeO (patchbaylaw4_PcapReads.j0 k y0 y1 y2 y3) (patchbaylaw4_PcapReads.j0 (k + 1) y0 y1 y2 y3))
  | 0 => fun _ _ _ _ r h => by simp [patchbaylaw4_PcapReads.j0] at h
  | k + 1 => by
    have ih0 := patchbaylaw4_PcapReads.mono_l k
    · intro y0 y1 y2 y3
      unfold patchbaylaw4_PcapReads.j0
      repeat' first
      | (with_reducible exact ih0 _ _ _ _)
      | (with_reducible exact patchbayref4_CaptureFront.mono _ _)
      | (with_reducible exact patchbayref4_SameCapture.mono _ _ _)
      | (with_reducible exact patchbayref4_Small.mono _ _)
      | (with_reducible exact pcap_Read.mono _ _)
      | (with_reducible exact LeO.refl _)
      | (with_reducible exact LeO.none _)
      | (with_reducible refine LeO.ite ?_ ?_)
      | (with_reducible refine LeO.bind ?_ (fun _ => ?_))
      | exact ih0 _ _ _ _
      | exact patchbayref4_CaptureFront.mono _ _
      | exact patchbayref4_SameCapture.mono _ _ _
      | exact patchbayref4_Small.mono _ _
      | exact pcap_Read.mono _ _
      | exact LeO.none _
      | refine LeO.ite ?_ ?_
      | refine LeO.bind ?_ (fun _ => ?_)
theorem patchbaylaw4_PcapReads.mono : ∀ a0 k, LeO (patchbaylaw4_PcapReads.f k a0) (patchbaylaw4_PcapReads.f (k + 1) a0) := by
  intro a0 k
  have ih0 := patchbaylaw4_PcapReads.mono_l k
  unfold patchbaylaw4_PcapReads.f
  repeat' first
      | (with_reducible exact ih0 _ _ _ _)
      | (with_reducible exact patchbayref4_CaptureFront.mono _ _)
      | (with_reducible exact patchbayref4_SameCapture.mono _ _ _)
      | (with_reducible exact patchbayref4_Small.mono _ _)
      | (with_reducible exact pcap_Read.mono _ _)
      | (with_reducible exact LeO.refl _)
      | (with_reducible exact LeO.none _)
      | (with_reducible refine LeO.ite ?_ ?_)
      | (with_reducible refine LeO.bind ?_ (fun _ => ?_))
      | exact ih0 _ _ _ _
      | exact patchbayref4_CaptureFront.mono _ _
      | exact patchbayref4_SameCapture.mono _ _ _
      | exact patchbayref4_Small.mono _ _
      | exact pcap_Read.mono _ _
      | exact LeO.none _
      | refine LeO.ite ?_ ?_
      | refine LeO.bind ?_ (fun _ => ?_)
set_option maxHeartbeats 8000000 in
set_option maxRecDepth 100000 in
theorem patchbaylaw4_PcapReads.calls (k : Nat) (a0 : ByteArray) (r : Bool) (w : World) (h : patchbaylaw4_PcapReads.f k a0 = some r) :
    Calls Try.prog 8 #[.string a0] w fun e w' => e = .returned (.bool r) ∧ Below w.heap.size w w' := by
  have HB := Aside0.mk (Below.refl w.heap.size w)
  have H : ((pcap_Read.f k (⟨#[]⟩ : ByteArray)).bind fun bt188 => (if bt188.2 = 9 then (if 0 ≤ (mn (a0.size : Int) 3000) then (if (mn (a0.size : Int) 3000) ≤ (a0.size : Int) then ((pcap_Read.f k (a0.extract 0 ((mn (a0.size : Int) 3000) : Int).toNat)).bind fun bt192 => ((patchbayref4_CaptureFront.f k (a0.extract 0 ((mn (a0.size : Int) 3000) : Int).toNat)).bind fun bt196 => (if ((a0.extract 0 ((mn (a0.size : Int) 3000) : Int).toNat).size : Int) < 4 then (if bt192.2 = 9 then (some ((bt192.1.length : Int) == 0)) else (some false)) else (if bt196.2 = 0 then (if bt192.2 = 3 then (some ((bt192.1.length : Int) == 0)) else (some false)) else (if bt196.2 = ((a0.extract 0 ((mn (a0.size : Int) 3000) : Int).toNat).size : Int) then (if bt192.2 = 0 then ((patchbayref4_SameCapture.f k bt192.1 bt196.1).bind fun t200 => (some t200)) else (some false)) else (if 0 ≤ bt196.2 then (if bt196.2 ≤ ((a0.extract 0 ((mn (a0.size : Int) 3000) : Int).toNat).size : Int) then (if (((a0.extract 0 ((mn (a0.size : Int) 3000) : Int).toNat).extract (bt196.2 : Int).toNat (a0.extract 0 ((mn (a0.size : Int) 3000) : Int).toNat).size).size : Int) < 12 then (patchbaylaw4_PcapReads.j0 k bt192.1 bt192.2 8 true) else (if 6 ≤ 8 then (if 8 ≤ (((a0.extract 0 ((mn (a0.size : Int) 3000) : Int).toNat).extract (bt196.2 : Int).toNat (a0.extract 0 ((mn (a0.size : Int) 3000) : Int).toNat).size).size : Int) then ((patchbayref4_Small.f k (((a0.extract 0 ((mn (a0.size : Int) 3000) : Int).toNat).extract (bt196.2 : Int).toNat (a0.extract 0 ((mn (a0.size : Int) 3000) : Int).toNat).size).extract 6 8)).bind fun t201 => (if t201 ≤ 2000 then ((patchbayref4_Small.f k (((a0.extract 0 ((mn (a0.size : Int) 3000) : Int).toNat).extract (bt196.2 : Int).toNat (a0.extract 0 ((mn (a0.size : Int) 3000) : Int).toNat).size).extract 6 8)).bind fun t202 => (patchbaylaw4_PcapReads.j0 k bt192.1 bt192.2 8 (decide ((((a0.extract 0 ((mn (a0.size : Int) 3000) : Int).toNat).extract (bt196.2 : Int).toNat (a0.extract 0 ((mn (a0.size : Int) 3000) : Int).toNat).size).size : Int) < (wrap64 (12 + t202)))))) else (patchbaylaw4_PcapReads.j0 k bt192.1 bt192.2 8 false))) else (none)) else (none))) else (none)) else (none))))))) else (none)) else (none)) else (some false))) = some r := h
  clear h
  replace H := Option.bind_eq_some_iff.mp H
  obtain ⟨⟨t188, t189⟩, A20, H⟩ := H
  replace H : (if t189 = 9 then (if 0 ≤ (mn (a0.size : Int) 3000) then (if (mn (a0.size : Int) 3000) ≤ (a0.size : Int) then ((pcap_Read.f k (a0.extract 0 ((mn (a0.size : Int) 3000) : Int).toNat)).bind fun bt192 => ((patchbayref4_CaptureFront.f k (a0.extract 0 ((mn (a0.size : Int) 3000) : Int).toNat)).bind fun bt196 => (if ((a0.extract 0 ((mn (a0.size : Int) 3000) : Int).toNat).size : Int) < 4 then (if bt192.2 = 9 then (some ((bt192.1.length : Int) == 0)) else (some false)) else (if bt196.2 = 0 then (if bt192.2 = 3 then (some ((bt192.1.length : Int) == 0)) else (some false)) else (if bt196.2 = ((a0.extract 0 ((mn (a0.size : Int) 3000) : Int).toNat).size : Int) then (if bt192.2 = 0 then ((patchbayref4_SameCapture.f k bt192.1 bt196.1).bind fun t200 => (some t200)) else (some false)) else (if 0 ≤ bt196.2 then (if bt196.2 ≤ ((a0.extract 0 ((mn (a0.size : Int) 3000) : Int).toNat).size : Int) then (if (((a0.extract 0 ((mn (a0.size : Int) 3000) : Int).toNat).extract (bt196.2 : Int).toNat (a0.extract 0 ((mn (a0.size : Int) 3000) : Int).toNat).size).size : Int) < 12 then (patchbaylaw4_PcapReads.j0 k bt192.1 bt192.2 8 true) else (if 6 ≤ 8 then (if 8 ≤ (((a0.extract 0 ((mn (a0.size : Int) 3000) : Int).toNat).extract (bt196.2 : Int).toNat (a0.extract 0 ((mn (a0.size : Int) 3000) : Int).toNat).size).size : Int) then ((patchbayref4_Small.f k (((a0.extract 0 ((mn (a0.size : Int) 3000) : Int).toNat).extract (bt196.2 : Int).toNat (a0.extract 0 ((mn (a0.size : Int) 3000) : Int).toNat).size).extract 6 8)).bind fun t201 => (if t201 ≤ 2000 then ((patchbayref4_Small.f k (((a0.extract 0 ((mn (a0.size : Int) 3000) : Int).toNat).extract (bt196.2 : Int).toNat (a0.extract 0 ((mn (a0.size : Int) 3000) : Int).toNat).size).extract 6 8)).bind fun t202 => (patchbaylaw4_PcapReads.j0 k bt192.1 bt192.2 8 (decide ((((a0.extract 0 ((mn (a0.size : Int) 3000) : Int).toNat).extract (bt196.2 : Int).toNat (a0.extract 0 ((mn (a0.size : Int) 3000) : Int).toNat).size).size : Int) < (wrap64 (12 + t202)))))) else (patchbaylaw4_PcapReads.j0 k bt192.1 bt192.2 8 false))) else (none)) else (none))) else (none)) else (none))))))) else (none)) else (none)) else (some false)) = some r := H
  have A2 := Aside0.mk A20
  clear A20
  by_cases c3 : t189 = 9
  · rw [if_pos c3] at H
    have c3b0 : (t189 == 9) = true := beq_iff_eq.mpr c3
    have c3b1 : (t189 != 9) = false := bne_eq_false_iff_eq.mpr c3
    clear c3
    obtain ⟨ji4, hji4⟩ : ∃ j_ : Int, (mn (a0.size : Int) 3000) = j_ := ⟨_, rfl⟩
    replace H : (if 0 ≤ (ji4) then (if (ji4) ≤ (a0.size : Int) then ((pcap_Read.f k (a0.extract 0 ((ji4) : Int).toNat)).bind fun bt192 => ((patchbayref4_CaptureFront.f k (a0.extract 0 ((ji4) : Int).toNat)).bind fun bt196 => (if ((a0.extract 0 ((ji4) : Int).toNat).size : Int) < 4 then (if bt192.2 = 9 then (some ((bt192.1.length : Int) == 0)) else (some false)) else (if bt196.2 = 0 then (if bt192.2 = 3 then (some ((bt192.1.length : Int) == 0)) else (some false)) else (if bt196.2 = ((a0.extract 0 ((ji4) : Int).toNat).size : Int) then (if bt192.2 = 0 then ((patchbayref4_SameCapture.f k bt192.1 bt196.1).bind fun t200 => (some t200)) else (some false)) else (if 0 ≤ bt196.2 then (if bt196.2 ≤ ((a0.extract 0 ((ji4) : Int).toNat).size : Int) then (if (((a0.extract 0 ((ji4) : Int).toNat).extract (bt196.2 : Int).toNat (a0.extract 0 ((ji4) : Int).toNat).size).size : Int) < 12 then (patchbaylaw4_PcapReads.j0 k bt192.1 bt192.2 8 true) else (if 6 ≤ 8 then (if 8 ≤ (((a0.extract 0 ((ji4) : Int).toNat).extract (bt196.2 : Int).toNat (a0.extract 0 ((ji4) : Int).toNat).size).size : Int) then ((patchbayref4_Small.f k (((a0.extract 0 ((ji4) : Int).toNat).extract (bt196.2 : Int).toNat (a0.extract 0 ((ji4) : Int).toNat).size).extract 6 8)).bind fun t201 => (if t201 ≤ 2000 then ((patchbayref4_Small.f k (((a0.extract 0 ((ji4) : Int).toNat).extract (bt196.2 : Int).toNat (a0.extract 0 ((ji4) : Int).toNat).size).extract 6 8)).bind fun t202 => (patchbaylaw4_PcapReads.j0 k bt192.1 bt192.2 8 (decide ((((a0.extract 0 ((ji4) : Int).toNat).extract (bt196.2 : Int).toNat (a0.extract 0 ((ji4) : Int).toNat).size).size : Int) < (wrap64 (12 + t202)))))) else (patchbaylaw4_PcapReads.j0 k bt192.1 bt192.2 8 false))) else (none)) else (none))) else (none)) else (none))))))) else (none)) else (none)) = some r := by first | (rw [hji4] at H; exact H) | (simp only [hji4] at H ⊢; exact H)
    (try rw [hji4] at A2)
    (try (have hji4h : ji4 ≤ 3000 := by (rw [← hji4]; unfold mn; (repeat' split) <;> omega)))
    (try (have hji4g : ji4 ≤ 64 := by omega))
    (try (have hji4l : 0 ≤ ji4 := by (rw [← hji4]; unfold mn; (repeat' split) <;> omega)))
    (try (have hji4m : 0 ≤ ji4 := by omega))
    have hji4_ : (if 3000 < (a0.size : Int) then 3000 else (a0.size : Int)) = ji4 := hji4
    by_cases c5 : 0 ≤ (ji4)
    · rw [if_pos c5] at H
      have c5b0 := eq_true c5
      have c5b1 : decide (0 ≤ (ji4)) = true := decide_eq_true c5
      clear c5
      by_cases c6 : (ji4) ≤ (a0.size : Int)
      · rw [if_pos c6] at H
        have c6b0 := eq_true c6
        have c6b1 : decide ((ji4) ≤ (a0.size : Int)) = true := decide_eq_true c6
        clear c6
        obtain ⟨sxji4, hsxji4⟩ : ∃ y_ : ByteArray, (a0.extract 0 (ji4).toNat) = y_ := ⟨_, rfl⟩
        rw [hsxji4] at H
        replace H := Option.bind_eq_some_iff.mp H
        obtain ⟨⟨t192, t193⟩, A70, H⟩ := H
        replace H : ((patchbayref4_CaptureFront.f k sxji4).bind fun bt196 => (if (sxji4.size : Int) < 4 then (if t193 = 9 then (some ((t192.length : Int) == 0)) else (some false)) else (if bt196.2 = 0 then (if t193 = 3 then (some ((t192.length : Int) == 0)) else (some false)) else (if bt196.2 = (sxji4.size : Int) then (if t193 = 0 then ((patchbayref4_SameCapture.f k t192 bt196.1).bind fun t200 => (some t200)) else (some false)) else (if 0 ≤ bt196.2 then (if bt196.2 ≤ (sxji4.size : Int) then (if ((sxji4.extract (bt196.2 : Int).toNat sxji4.size).size : Int) < 12 then (patchbaylaw4_PcapReads.j0 k t192 t193 8 true) else (if 6 ≤ 8 then (if 8 ≤ ((sxji4.extract (bt196.2 : Int).toNat sxji4.size).size : Int) then ((patchbayref4_Small.f k ((sxji4.extract (bt196.2 : Int).toNat sxji4.size).extract 6 8)).bind fun t201 => (if t201 ≤ 2000 then ((patchbayref4_Small.f k ((sxji4.extract (bt196.2 : Int).toNat sxji4.size).extract 6 8)).bind fun t202 => (patchbaylaw4_PcapReads.j0 k t192 t193 8 (decide (((sxji4.extract (bt196.2 : Int).toNat sxji4.size).size : Int) < (wrap64 (12 + t202)))))) else (patchbaylaw4_PcapReads.j0 k t192 t193 8 false))) else (none)) else (none))) else (none)) else (none)))))) = some r := H
        have A7 := Aside0.mk A70
        clear A70
        replace H := Option.bind_eq_some_iff.mp H
        obtain ⟨⟨t196, t197⟩, A80, H⟩ := H
        replace H : (if (sxji4.size : Int) < 4 then (if t193 = 9 then (some ((t192.length : Int) == 0)) else (some false)) else (if t197 = 0 then (if t193 = 3 then (some ((t192.length : Int) == 0)) else (some false)) else (if t197 = (sxji4.size : Int) then (if t193 = 0 then ((patchbayref4_SameCapture.f k t192 t196).bind fun t200 => (some t200)) else (some false)) else (if 0 ≤ t197 then (if t197 ≤ (sxji4.size : Int) then (if ((sxji4.extract (t197 : Int).toNat sxji4.size).size : Int) < 12 then (patchbaylaw4_PcapReads.j0 k t192 t193 8 true) else (if 6 ≤ 8 then (if 8 ≤ ((sxji4.extract (t197 : Int).toNat sxji4.size).size : Int) then ((patchbayref4_Small.f k ((sxji4.extract (t197 : Int).toNat sxji4.size).extract 6 8)).bind fun t201 => (if t201 ≤ 2000 then ((patchbayref4_Small.f k ((sxji4.extract (t197 : Int).toNat sxji4.size).extract 6 8)).bind fun t202 => (patchbaylaw4_PcapReads.j0 k t192 t193 8 (decide (((sxji4.extract (t197 : Int).toNat sxji4.size).size : Int) < (wrap64 (12 + t202)))))) else (patchbaylaw4_PcapReads.j0 k t192 t193 8 false))) else (none)) else (none))) else (none)) else (none))))) = some r := H
        have A8 := Aside0.mk A80
        clear A80
        by_cases c9 : (sxji4.size : Int) < 4
        · rw [if_pos c9] at H
          have c9b0 : decide ((sxji4.size : Int) < 4) = true := decide_eq_true c9
          (try (have c9f0 := c9b0; rw [show (((a0).extract 0 (ji4).toNat).size : Int) = max ji4 0 by (rw [ByteArray.size_extract]; have h5_ : 0 ≤ ji4 := of_decide_eq_true (by assumption); have h6_ : ji4 ≤ (a0.size : Int) := of_decide_eq_true (by assumption); omega)] at c9f0))
          have c9b1 : decide (sxji4.size < 4) = true := decide_eq_true (by omega)
          (try (have c9e0 := c9b0; simp only [ByteArray.size_extract, Nat.min_self] at c9e0))
          (try (have c9e1 := c9b1; simp only [ByteArray.size_extract, Nat.min_self] at c9e1))
          clear c9
          by_cases c10 : t193 = 9
          · rw [if_pos c10] at H
            have c10b0 : (t193 == 9) = true := beq_iff_eq.mpr c10
            have c10b1 : (t193 != 9) = false := bne_eq_false_iff_eq.mpr c10
            clear c10
            obtain rfl := Option.some.inj H
            go_enter Try.func8, Try.ntmps8
            go_wp2_with (first | ((with_reducible refine gate_callee (f := 24) rfl ?_); refine goesL_ (some 12) rfl rfl Try.func24 (by kernel_rfl) rfl #[.string (⟨#[]⟩ : ByteArray)] rfl (by (try simp only [List.map_toArray, List.map_cons, List.map_nil]); first | done | rfl | (simp only [List.length_drop, List.length_take]; rfl)) ?_; (with_reducible refine (pcap_Read.calls k (⟨#[]⟩ : ByteArray) t188 t189 _ A2.out).mono ?_); rintro e w11 ⟨v190, rfl, ho0, hb⟩; refine ⟨_, rfl, ?_⟩; have n0_ := Aside0.mk (Kd.R_lower ho0 (below_size (by repeat (first | (with_reducible first | exact HB.out | apply below_alloc | apply pw_below_drewN | apply below_drew1) | exact HB.out)))); have n1_ := Aside0.mk (below_step (by repeat (first | (with_reducible first | exact HB.out | apply below_alloc | apply pw_below_drewN | apply below_drew1) | exact HB.out)) hb); clear HB; have HO191 := n0_; have HB := n1_; clear n0_ n1_; (try clear hb); (try clear hb2); (try clear hk); (try clear hi); (try clear ho0)) | ((with_reducible refine gate_callee (f := 24) rfl ?_); refine goesL_ (some 24) rfl rfl Try.func24 (by kernel_rfl) rfl #[.string sxji4] rfl (by (try simp only [List.map_toArray, List.map_cons, List.map_nil]); first | done | (simp only [hji4]; rfl) | rfl | (simp only [List.length_drop, List.length_take]; rfl)) ?_; (with_reducible refine (pcap_Read.calls k sxji4 t192 t193 _ A7.out).mono ?_); rintro e w12 ⟨v194, rfl, ho0, hb⟩; refine ⟨_, rfl, ?_⟩; have n0_ := Aside0.mk (Kd.R_elder' (by (with_reducible repeat (first | apply Kd.R_alloc | apply Kd.R_drewN | apply Kd.R_drew)); exact HO191.out) (Kd.R_base ho0) hb); have n1_ := Aside0.mk (Kd.R_lower (Kd.R_new' ho0 (Kd.R_lt (by (with_reducible repeat (first | apply Kd.R_alloc | apply Kd.R_drewN | apply Kd.R_drew)); exact HO191.out))) (below_size (by repeat (first | (with_reducible first | exact HB.out | apply below_alloc | apply pw_below_drewN | apply below_drew1) | exact HB.out)))); have n2_ := Aside0.mk (below_step (by repeat (first | (with_reducible first | exact HB.out | apply below_alloc | apply pw_below_drewN | apply below_drew1) | exact HB.out)) hb); clear HO191; clear HB; have HO191 := n0_; have HO195 := n1_; have HB := n2_; clear n0_ n1_ n2_; (try clear hb); (try clear hb2); (try clear hk); (try clear hi); (try clear ho0)) | ((with_reducible refine gate_callee (f := 22) rfl ?_); refine goesL_ (some 29) rfl rfl Try.func22 (by kernel_rfl) rfl #[.string sxji4] rfl (by (try simp only [List.map_toArray, List.map_cons, List.map_nil]); first | done | (simp only [hji4]; rfl) | rfl | (simp only [List.length_drop, List.length_take]; rfl)) ?_; (with_reducible refine (patchbayref4_CaptureFront.calls k sxji4 t196 t197 _ A8.out).mono ?_); rintro e w13 ⟨v198, rfl, ho0, hb⟩; refine ⟨_, rfl, ?_⟩; have n0_ := Aside0.mk (Kd.R_elder' (by (with_reducible repeat (first | apply Kd.R_alloc | apply Kd.R_drewN | apply Kd.R_drew)); exact HO191.out) (Kd.R_base ho0) hb); have n1_ := Aside0.mk (Kd.R_elder' (by (with_reducible repeat (first | apply Kd.R_alloc | apply Kd.R_drewN | apply Kd.R_drew)); exact HO195.out) (Kd.R_base ho0) hb); have n2_ := Aside0.mk (Kd.R_lower (Kd.R_new' (Kd.R_new' ho0 (Kd.R_lt (by (with_reducible repeat (first | apply Kd.R_alloc | apply Kd.R_drewN | apply Kd.R_drew)); exact HO191.out))) (Kd.R_lt (by (with_reducible repeat (first | apply Kd.R_alloc | apply Kd.R_drewN | apply Kd.R_drew)); exact HO195.out))) (below_size (by repeat (first | (with_reducible first | exact HB.out | apply below_alloc | apply pw_below_drewN | apply below_drew1) | exact HB.out)))); have n3_ := Aside0.mk (below_step (by repeat (first | (with_reducible first | exact HB.out | apply below_alloc | apply pw_below_drewN | apply below_drew1) | exact HB.out)) hb); clear HO191; clear HO195; clear HB; have HO191 := n0_; have HO195 := n1_; have HO199 := n2_; have HB := n3_; clear n0_ n1_ n2_ n3_; (try clear hb); (try clear hb2); (try clear hk); (try clear hi); (try clear ho0); obtain ⟨Ao14, co14, eo14⟩ := Kd.R_slice HO195.out; subst eo14))
            go_ret
            exact ⟨by first | rfl | (simp [errW_none, errW_some] <;> rfl) | (simp only [← hji4]; first | rfl | (simp [errW_none, errW_some] <;> rfl)) | (simp [*, errW_none, errW_some] <;> rfl), by repeat (first | (with_reducible first | exact HB.out | apply below_alloc | apply pw_below_drewN | apply below_drew1) | exact HB.out)⟩
          · rw [if_neg c10] at H
            have c10b0 : (t193 == 9) = false := beq_eq_false_iff_ne.mpr c10
            have c10b1 : (t193 != 9) = true := bne_iff_ne.mpr c10
            obtain rfl := Option.some.inj H
            go_enter Try.func8, Try.ntmps8
            go_wp2_with (first | ((with_reducible refine gate_callee (f := 24) rfl ?_); refine goesL_ (some 12) rfl rfl Try.func24 (by kernel_rfl) rfl #[.string (⟨#[]⟩ : ByteArray)] rfl (by (try simp only [List.map_toArray, List.map_cons, List.map_nil]); first | done | rfl | (simp only [List.length_drop, List.length_take]; rfl)) ?_; (with_reducible refine (pcap_Read.calls k (⟨#[]⟩ : ByteArray) t188 t189 _ A2.out).mono ?_); rintro e w15 ⟨v190, rfl, ho0, hb⟩; refine ⟨_, rfl, ?_⟩; have n0_ := Aside0.mk (Kd.R_lower ho0 (below_size (by repeat (first | (with_reducible first | exact HB.out | apply below_alloc | apply pw_below_drewN | apply below_drew1) | exact HB.out)))); have n1_ := Aside0.mk (below_step (by repeat (first | (with_reducible first | exact HB.out | apply below_alloc | apply pw_below_drewN | apply below_drew1) | exact HB.out)) hb); clear HB; have HO191 := n0_; have HB := n1_; clear n0_ n1_; (try clear hb); (try clear hb2); (try clear hk); (try clear hi); (try clear ho0)) | ((with_reducible refine gate_callee (f := 24) rfl ?_); refine goesL_ (some 24) rfl rfl Try.func24 (by kernel_rfl) rfl #[.string sxji4] rfl (by (try simp only [List.map_toArray, List.map_cons, List.map_nil]); first | done | (simp only [hji4]; rfl) | rfl | (simp only [List.length_drop, List.length_take]; rfl)) ?_; (with_reducible refine (pcap_Read.calls k sxji4 t192 t193 _ A7.out).mono ?_); rintro e w16 ⟨v194, rfl, ho0, hb⟩; refine ⟨_, rfl, ?_⟩; have n0_ := Aside0.mk (Kd.R_elder' (by (with_reducible repeat (first | apply Kd.R_alloc | apply Kd.R_drewN | apply Kd.R_drew)); exact HO191.out) (Kd.R_base ho0) hb); have n1_ := Aside0.mk (Kd.R_lower (Kd.R_new' ho0 (Kd.R_lt (by (with_reducible repeat (first | apply Kd.R_alloc | apply Kd.R_drewN | apply Kd.R_drew)); exact HO191.out))) (below_size (by repeat (first | (with_reducible first | exact HB.out | apply below_alloc | apply pw_below_drewN | apply below_drew1) | exact HB.out)))); have n2_ := Aside0.mk (below_step (by repeat (first | (with_reducible first | exact HB.out | apply below_alloc | apply pw_below_drewN | apply below_drew1) | exact HB.out)) hb); clear HO191; clear HB; have HO191 := n0_; have HO195 := n1_; have HB := n2_; clear n0_ n1_ n2_; (try clear hb); (try clear hb2); (try clear hk); (try clear hi); (try clear ho0)) | ((with_reducible refine gate_callee (f := 22) rfl ?_); refine goesL_ (some 29) rfl rfl Try.func22 (by kernel_rfl) rfl #[.string sxji4] rfl (by (try simp only [List.map_toArray, List.map_cons, List.map_nil]); first | done | (simp only [hji4]; rfl) | rfl | (simp only [List.length_drop, List.length_take]; rfl)) ?_; (with_reducible refine (patchbayref4_CaptureFront.calls k sxji4 t196 t197 _ A8.out).mono ?_); rintro e w17 ⟨v198, rfl, ho0, hb⟩; refine ⟨_, rfl, ?_⟩; have n0_ := Aside0.mk (Kd.R_elder' (by (with_reducible repeat (first | apply Kd.R_alloc | apply Kd.R_drewN | apply Kd.R_drew)); exact HO191.out) (Kd.R_base ho0) hb); have n1_ := Aside0.mk (Kd.R_elder' (by (with_reducible repeat (first | apply Kd.R_alloc | apply Kd.R_drewN | apply Kd.R_drew)); exact HO195.out) (Kd.R_base ho0) hb); have n2_ := Aside0.mk (Kd.R_lower (Kd.R_new' (Kd.R_new' ho0 (Kd.R_lt (by (with_reducible repeat (first | apply Kd.R_alloc | apply Kd.R_drewN | apply Kd.R_drew)); exact HO191.out))) (Kd.R_lt (by (with_reducible repeat (first | apply Kd.R_alloc | apply Kd.R_drewN | apply Kd.R_drew)); exact HO195.out))) (below_size (by repeat (first | (with_reducible first | exact HB.out | apply below_alloc | apply pw_below_drewN | apply below_drew1) | exact HB.out)))); have n3_ := Aside0.mk (below_step (by repeat (first | (with_reducible first | exact HB.out | apply below_alloc | apply pw_below_drewN | apply below_drew1) | exact HB.out)) hb); clear HO191; clear HO195; clear HB; have HO191 := n0_; have HO195 := n1_; have HO199 := n2_; have HB := n3_; clear n0_ n1_ n2_ n3_; (try clear hb); (try clear hb2); (try clear hk); (try clear hi); (try clear ho0)))
            go_ret
            exact ⟨by first | rfl | (simp [errW_none, errW_some] <;> rfl) | (simp only [← hji4]; first | rfl | (simp [errW_none, errW_some] <;> rfl)) | (simp [*, errW_none, errW_some] <;> rfl), by repeat (first | (with_reducible first | exact HB.out | apply below_alloc | apply pw_below_drewN | apply below_drew1) | exact HB.out)⟩
        · rw [if_neg c9] at H
          have c9b0 : decide ((sxji4.size : Int) < 4) = false := decide_eq_false c9
          (try (have c9f0 := c9b0; rw [show (((a0).extract 0 (ji4).toNat).size : Int) = max ji4 0 by (rw [ByteArray.size_extract]; have h5_ : 0 ≤ ji4 := of_decide_eq_true (by assumption); have h6_ : ji4 ≤ (a0.size : Int) := of_decide_eq_true (by assumption); omega)] at c9f0))
          have c9b1 : decide (sxji4.size < 4) = false := decide_eq_false (by omega)
          (try (have c9e0 := c9b0; simp only [ByteArray.size_extract, Nat.min_self] at c9e0))
          (try (have c9e1 := c9b1; simp only [ByteArray.size_extract, Nat.min_self] at c9e1))
          clear c9
          by_cases c18 : t197 = 0
          · rw [if_pos c18] at H
            have c18b0 : (t197 == 0) = true := beq_iff_eq.mpr c18
            have c18b1 : (t197 != 0) = false := bne_eq_false_iff_eq.mpr c18
            clear c18
            by_cases c19 : t193 = 3
            · rw [if_pos c19] at H
              have c19b0 : (t193 == 3) = true := beq_iff_eq.mpr c19
              have c19b1 : (t193 != 3) = false := bne_eq_false_iff_eq.mpr c19
              clear c19
              obtain rfl := Option.some.inj H
              go_enter Try.func8, Try.ntmps8
              go_wp2_with (first | ((with_reducible refine gate_callee (f := 24) rfl ?_); refine goesL_ (some 12) rfl rfl Try.func24 (by kernel_rfl) rfl #[.string (⟨#[]⟩ : ByteArray)] rfl (by (try simp only [List.map_toArray, List.map_cons, List.map_nil]); first | done | rfl | (simp only [List.length_drop, List.length_take]; rfl)) ?_; (with_reducible refine (pcap_Read.calls k (⟨#[]⟩ : ByteArray) t188 t189 _ A2.out).mono ?_); rintro e w20 ⟨v190, rfl, ho0, hb⟩; refine ⟨_, rfl, ?_⟩; have n0_ := Aside0.mk (Kd.R_lower ho0 (below_size (by repeat (first | (with_reducible first | exact HB.out | apply below_alloc | apply pw_below_drewN | apply below_drew1) | exact HB.out)))); have n1_ := Aside0.mk (below_step (by repeat (first | (with_reducible first | exact HB.out | apply below_alloc | apply pw_below_drewN | apply below_drew1) | exact HB.out)) hb); clear HB; have HO191 := n0_; have HB := n1_; clear n0_ n1_; (try clear hb); (try clear hb2); (try clear hk); (try clear hi); (try clear ho0)) | ((with_reducible refine gate_callee (f := 24) rfl ?_); refine goesL_ (some 24) rfl rfl Try.func24 (by kernel_rfl) rfl #[.string sxji4] rfl (by (try simp only [List.map_toArray, List.map_cons, List.map_nil]); first | done | (simp only [hji4]; rfl) | rfl | (simp only [List.length_drop, List.length_take]; rfl)) ?_; (with_reducible refine (pcap_Read.calls k sxji4 t192 t193 _ A7.out).mono ?_); rintro e w21 ⟨v194, rfl, ho0, hb⟩; refine ⟨_, rfl, ?_⟩; have n0_ := Aside0.mk (Kd.R_elder' (by (with_reducible repeat (first | apply Kd.R_alloc | apply Kd.R_drewN | apply Kd.R_drew)); exact HO191.out) (Kd.R_base ho0) hb); have n1_ := Aside0.mk (Kd.R_lower (Kd.R_new' ho0 (Kd.R_lt (by (with_reducible repeat (first | apply Kd.R_alloc | apply Kd.R_drewN | apply Kd.R_drew)); exact HO191.out))) (below_size (by repeat (first | (with_reducible first | exact HB.out | apply below_alloc | apply pw_below_drewN | apply below_drew1) | exact HB.out)))); have n2_ := Aside0.mk (below_step (by repeat (first | (with_reducible first | exact HB.out | apply below_alloc | apply pw_below_drewN | apply below_drew1) | exact HB.out)) hb); clear HO191; clear HB; have HO191 := n0_; have HO195 := n1_; have HB := n2_; clear n0_ n1_ n2_; (try clear hb); (try clear hb2); (try clear hk); (try clear hi); (try clear ho0)) | ((with_reducible refine gate_callee (f := 22) rfl ?_); refine goesL_ (some 29) rfl rfl Try.func22 (by kernel_rfl) rfl #[.string sxji4] rfl (by (try simp only [List.map_toArray, List.map_cons, List.map_nil]); first | done | (simp only [hji4]; rfl) | rfl | (simp only [List.length_drop, List.length_take]; rfl)) ?_; (with_reducible refine (patchbayref4_CaptureFront.calls k sxji4 t196 t197 _ A8.out).mono ?_); rintro e w22 ⟨v198, rfl, ho0, hb⟩; refine ⟨_, rfl, ?_⟩; have n0_ := Aside0.mk (Kd.R_elder' (by (with_reducible repeat (first | apply Kd.R_alloc | apply Kd.R_drewN | apply Kd.R_drew)); exact HO191.out) (Kd.R_base ho0) hb); have n1_ := Aside0.mk (Kd.R_elder' (by (with_reducible repeat (first | apply Kd.R_alloc | apply Kd.R_drewN | apply Kd.R_drew)); exact HO195.out) (Kd.R_base ho0) hb); have n2_ := Aside0.mk (Kd.R_lower (Kd.R_new' (Kd.R_new' ho0 (Kd.R_lt (by (with_reducible repeat (first | apply Kd.R_alloc | apply Kd.R_drewN | apply Kd.R_drew)); exact HO191.out))) (Kd.R_lt (by (with_reducible repeat (first | apply Kd.R_alloc | apply Kd.R_drewN | apply Kd.R_drew)); exact HO195.out))) (below_size (by repeat (first | (with_reducible first | exact HB.out | apply below_alloc | apply pw_below_drewN | apply below_drew1) | exact HB.out)))); have n3_ := Aside0.mk (below_step (by repeat (first | (with_reducible first | exact HB.out | apply below_alloc | apply pw_below_drewN | apply below_drew1) | exact HB.out)) hb); clear HO191; clear HO195; clear HB; have HO191 := n0_; have HO195 := n1_; have HO199 := n2_; have HB := n3_; clear n0_ n1_ n2_ n3_; (try clear hb); (try clear hb2); (try clear hk); (try clear hi); (try clear ho0); obtain ⟨Ao23, co23, eo23⟩ := Kd.R_slice HO195.out; subst eo23))
              go_ret
              exact ⟨by first | rfl | (simp [errW_none, errW_some] <;> rfl) | (simp only [← hji4]; first | rfl | (simp [errW_none, errW_some] <;> rfl)) | (simp [*, errW_none, errW_some] <;> rfl), by repeat (first | (with_reducible first | exact HB.out | apply below_alloc | apply pw_below_drewN | apply below_drew1) | exact HB.out)⟩
            · rw [if_neg c19] at H
              have c19b0 : (t193 == 3) = false := beq_eq_false_iff_ne.mpr c19
              have c19b1 : (t193 != 3) = true := bne_iff_ne.mpr c19
              obtain rfl := Option.some.inj H
              go_enter Try.func8, Try.ntmps8
              go_wp2_with (first | ((with_reducible refine gate_callee (f := 24) rfl ?_); refine goesL_ (some 12) rfl rfl Try.func24 (by kernel_rfl) rfl #[.string (⟨#[]⟩ : ByteArray)] rfl (by (try simp only [List.map_toArray, List.map_cons, List.map_nil]); first | done | rfl | (simp only [List.length_drop, List.length_take]; rfl)) ?_; (with_reducible refine (pcap_Read.calls k (⟨#[]⟩ : ByteArray) t188 t189 _ A2.out).mono ?_); rintro e w24 ⟨v190, rfl, ho0, hb⟩; refine ⟨_, rfl, ?_⟩; have n0_ := Aside0.mk (Kd.R_lower ho0 (below_size (by repeat (first | (with_reducible first | exact HB.out | apply below_alloc | apply pw_below_drewN | apply below_drew1) | exact HB.out)))); have n1_ := Aside0.mk (below_step (by repeat (first | (with_reducible first | exact HB.out | apply below_alloc | apply pw_below_drewN | apply below_drew1) | exact HB.out)) hb); clear HB; have HO191 := n0_; have HB := n1_; clear n0_ n1_; (try clear hb); (try clear hb2); (try clear hk); (try clear hi); (try clear ho0)) | ((with_reducible refine gate_callee (f := 24) rfl ?_); refine goesL_ (some 24) rfl rfl Try.func24 (by kernel_rfl) rfl #[.string sxji4] rfl (by (try simp only [List.map_toArray, List.map_cons, List.map_nil]); first | done | (simp only [hji4]; rfl) | rfl | (simp only [List.length_drop, List.length_take]; rfl)) ?_; (with_reducible refine (pcap_Read.calls k sxji4 t192 t193 _ A7.out).mono ?_); rintro e w25 ⟨v194, rfl, ho0, hb⟩; refine ⟨_, rfl, ?_⟩; have n0_ := Aside0.mk (Kd.R_elder' (by (with_reducible repeat (first | apply Kd.R_alloc | apply Kd.R_drewN | apply Kd.R_drew)); exact HO191.out) (Kd.R_base ho0) hb); have n1_ := Aside0.mk (Kd.R_lower (Kd.R_new' ho0 (Kd.R_lt (by (with_reducible repeat (first | apply Kd.R_alloc | apply Kd.R_drewN | apply Kd.R_drew)); exact HO191.out))) (below_size (by repeat (first | (with_reducible first | exact HB.out | apply below_alloc | apply pw_below_drewN | apply below_drew1) | exact HB.out)))); have n2_ := Aside0.mk (below_step (by repeat (first | (with_reducible first | exact HB.out | apply below_alloc | apply pw_below_drewN | apply below_drew1) | exact HB.out)) hb); clear HO191; clear HB; have HO191 := n0_; have HO195 := n1_; have HB := n2_; clear n0_ n1_ n2_; (try clear hb); (try clear hb2); (try clear hk); (try clear hi); (try clear ho0)) | ((with_reducible refine gate_callee (f := 22) rfl ?_); refine goesL_ (some 29) rfl rfl Try.func22 (by kernel_rfl) rfl #[.string sxji4] rfl (by (try simp only [List.map_toArray, List.map_cons, List.map_nil]); first | done | (simp only [hji4]; rfl) | rfl | (simp only [List.length_drop, List.length_take]; rfl)) ?_; (with_reducible refine (patchbayref4_CaptureFront.calls k sxji4 t196 t197 _ A8.out).mono ?_); rintro e w26 ⟨v198, rfl, ho0, hb⟩; refine ⟨_, rfl, ?_⟩; have n0_ := Aside0.mk (Kd.R_elder' (by (with_reducible repeat (first | apply Kd.R_alloc | apply Kd.R_drewN | apply Kd.R_drew)); exact HO191.out) (Kd.R_base ho0) hb); have n1_ := Aside0.mk (Kd.R_elder' (by (with_reducible repeat (first | apply Kd.R_alloc | apply Kd.R_drewN | apply Kd.R_drew)); exact HO195.out) (Kd.R_base ho0) hb); have n2_ := Aside0.mk (Kd.R_lower (Kd.R_new' (Kd.R_new' ho0 (Kd.R_lt (by (with_reducible repeat (first | apply Kd.R_alloc | apply Kd.R_drewN | apply Kd.R_drew)); exact HO191.out))) (Kd.R_lt (by (with_reducible repeat (first | apply Kd.R_alloc | apply Kd.R_drewN | apply Kd.R_drew)); exact HO195.out))) (below_size (by repeat (first | (with_reducible first | exact HB.out | apply below_alloc | apply pw_below_drewN | apply below_drew1) | exact HB.out)))); have n3_ := Aside0.mk (below_step (by repeat (first | (with_reducible first | exact HB.out | apply below_alloc | apply pw_below_drewN | apply below_drew1) | exact HB.out)) hb); clear HO191; clear HO195; clear HB; have HO191 := n0_; have HO195 := n1_; have HO199 := n2_; have HB := n3_; clear n0_ n1_ n2_ n3_; (try clear hb); (try clear hb2); (try clear hk); (try clear hi); (try clear ho0)))
              go_ret
              exact ⟨by first | rfl | (simp [errW_none, errW_some] <;> rfl) | (simp only [← hji4]; first | rfl | (simp [errW_none, errW_some] <;> rfl)) | (simp [*, errW_none, errW_some] <;> rfl), by repeat (first | (with_reducible first | exact HB.out | apply below_alloc | apply pw_below_drewN | apply below_drew1) | exact HB.out)⟩
          · rw [if_neg c18] at H
            have c18b0 : (t197 == 0) = false := beq_eq_false_iff_ne.mpr c18
            have c18b1 : (t197 != 0) = true := bne_iff_ne.mpr c18
            by_cases c27 : t197 = (sxji4.size : Int)
            · rw [if_pos c27] at H
              have c27b0 : (t197 == (sxji4.size : Int)) = true := beq_iff_eq.mpr c27
              (try (have c27f0 := c27b0; rw [show (((a0).extract 0 (ji4).toNat).size : Int) = max ji4 0 by (rw [ByteArray.size_extract]; have h5_ : 0 ≤ ji4 := of_decide_eq_true (by assumption); have h6_ : ji4 ≤ (a0.size : Int) := of_decide_eq_true (by assumption); omega)] at c27f0))
              have c27b1 : (t197 != (sxji4.size : Int)) = false := bne_eq_false_iff_eq.mpr c27
              (try (have c27f0 := c27b0; rw [show (((a0).extract 0 (ji4).toNat).size : Int) = max ji4 0 by (rw [ByteArray.size_extract]; have h5_ : 0 ≤ ji4 := of_decide_eq_true (by assumption); have h6_ : ji4 ≤ (a0.size : Int) := of_decide_eq_true (by assumption); omega)] at c27f0))
              (try (have c27f1 := c27b1; rw [show (((a0).extract 0 (ji4).toNat).size : Int) = max ji4 0 by (rw [ByteArray.size_extract]; have h5_ : 0 ≤ ji4 := of_decide_eq_true (by assumption); have h6_ : ji4 ≤ (a0.size : Int) := of_decide_eq_true (by assumption); omega)] at c27f1))
              (try (have c27e0 := c27b0; simp only [ByteArray.size_extract, Nat.min_self] at c27e0))
              (try (have c27e1 := c27b1; simp only [ByteArray.size_extract, Nat.min_self] at c27e1))
              clear c27
              by_cases c28 : t193 = 0
              · rw [if_pos c28] at H
                have c28b0 : (t193 == 0) = true := beq_iff_eq.mpr c28
                have c28b1 : (t193 != 0) = false := bne_eq_false_iff_eq.mpr c28
                clear c28
                replace H := Option.bind_eq_some_iff.mp H
                obtain ⟨t200, A290, H⟩ := H
                replace H : (some t200) = some r := H
                have A29 := Aside0.mk A290
                clear A290
                obtain rfl := Option.some.inj H
                go_enter Try.func8, Try.ntmps8
                go_wp2_with (first | ((with_reducible refine gate_callee (f := 24) rfl ?_); refine goesL_ (some 12) rfl rfl Try.func24 (by kernel_rfl) rfl #[.string (⟨#[]⟩ : ByteArray)] rfl (by (try simp only [List.map_toArray, List.map_cons, List.map_nil]); first | done | rfl | (simp only [List.length_drop, List.length_take]; rfl)) ?_; (with_reducible refine (pcap_Read.calls k (⟨#[]⟩ : ByteArray) t188 t189 _ A2.out).mono ?_); rintro e w30 ⟨v190, rfl, ho0, hb⟩; refine ⟨_, rfl, ?_⟩; have n0_ := Aside0.mk (Kd.R_lower ho0 (below_size (by repeat (first | (with_reducible first | exact HB.out | apply below_alloc | apply pw_below_drewN | apply below_drew1) | exact HB.out)))); have n1_ := Aside0.mk (below_step (by repeat (first | (with_reducible first | exact HB.out | apply below_alloc | apply pw_below_drewN | apply below_drew1) | exact HB.out)) hb); clear HB; have HO191 := n0_; have HB := n1_; clear n0_ n1_; (try clear hb); (try clear hb2); (try clear hk); (try clear hi); (try clear ho0)) | ((with_reducible refine gate_callee (f := 24) rfl ?_); refine goesL_ (some 24) rfl rfl Try.func24 (by kernel_rfl) rfl #[.string sxji4] rfl (by (try simp only [List.map_toArray, List.map_cons, List.map_nil]); first | done | (simp only [hji4]; rfl) | rfl | (simp only [List.length_drop, List.length_take]; rfl)) ?_; (with_reducible refine (pcap_Read.calls k sxji4 t192 t193 _ A7.out).mono ?_); rintro e w31 ⟨v194, rfl, ho0, hb⟩; refine ⟨_, rfl, ?_⟩; have n0_ := Aside0.mk (Kd.R_elder' (by (with_reducible repeat (first | apply Kd.R_alloc | apply Kd.R_drewN | apply Kd.R_drew)); exact HO191.out) (Kd.R_base ho0) hb); have n1_ := Aside0.mk (Kd.R_lower (Kd.R_new' ho0 (Kd.R_lt (by (with_reducible repeat (first | apply Kd.R_alloc | apply Kd.R_drewN | apply Kd.R_drew)); exact HO191.out))) (below_size (by repeat (first | (with_reducible first | exact HB.out | apply below_alloc | apply pw_below_drewN | apply below_drew1) | exact HB.out)))); have n2_ := Aside0.mk (below_step (by repeat (first | (with_reducible first | exact HB.out | apply below_alloc | apply pw_below_drewN | apply below_drew1) | exact HB.out)) hb); clear HO191; clear HB; have HO191 := n0_; have HO195 := n1_; have HB := n2_; clear n0_ n1_ n2_; (try clear hb); (try clear hb2); (try clear hk); (try clear hi); (try clear ho0)) | ((with_reducible refine gate_callee (f := 22) rfl ?_); refine goesL_ (some 29) rfl rfl Try.func22 (by kernel_rfl) rfl #[.string sxji4] rfl (by (try simp only [List.map_toArray, List.map_cons, List.map_nil]); first | done | (simp only [hji4]; rfl) | rfl | (simp only [List.length_drop, List.length_take]; rfl)) ?_; (with_reducible refine (patchbayref4_CaptureFront.calls k sxji4 t196 t197 _ A8.out).mono ?_); rintro e w32 ⟨v198, rfl, ho0, hb⟩; refine ⟨_, rfl, ?_⟩; have n0_ := Aside0.mk (Kd.R_elder' (by (with_reducible repeat (first | apply Kd.R_alloc | apply Kd.R_drewN | apply Kd.R_drew)); exact HO191.out) (Kd.R_base ho0) hb); have n1_ := Aside0.mk (Kd.R_elder' (by (with_reducible repeat (first | apply Kd.R_alloc | apply Kd.R_drewN | apply Kd.R_drew)); exact HO195.out) (Kd.R_base ho0) hb); have n2_ := Aside0.mk (Kd.R_lower (Kd.R_new' (Kd.R_new' ho0 (Kd.R_lt (by (with_reducible repeat (first | apply Kd.R_alloc | apply Kd.R_drewN | apply Kd.R_drew)); exact HO191.out))) (Kd.R_lt (by (with_reducible repeat (first | apply Kd.R_alloc | apply Kd.R_drewN | apply Kd.R_drew)); exact HO195.out))) (below_size (by repeat (first | (with_reducible first | exact HB.out | apply below_alloc | apply pw_below_drewN | apply below_drew1) | exact HB.out)))); have n3_ := Aside0.mk (below_step (by repeat (first | (with_reducible first | exact HB.out | apply below_alloc | apply pw_below_drewN | apply below_drew1) | exact HB.out)) hb); clear HO191; clear HO195; clear HB; have HO191 := n0_; have HO195 := n1_; have HO199 := n2_; have HB := n3_; clear n0_ n1_ n2_ n3_; (try clear hb); (try clear hb2); (try clear hk); (try clear hi); (try clear ho0); obtain ⟨Ao33, co33, eo33⟩ := Kd.R_slice HO195.out; subst eo33; obtain ⟨Ao34, co34, eo34⟩ := Kd.R_slice HO199.out; subst eo34) | (go_at_call 23; (with_reducible refine (patchbayref4_SameCapture.calls k _ _ t192 _ _ t196 t200 _ ?side1 ?side2 ?side3 ?side4 A29.out).mono ?_); (case side1 => repeat (first | exact (Kd.R_reads' HO195.out).2.2 | (with_reducible refine Kd.C_alloc ?_ _) | (with_reducible refine Kd.C_drewN ?_ _) | (with_reducible refine Kd.C_drew ?_))); (case side2 => exact (Kd.R_reads' HO195.out).2.1); (case side3 => repeat (first | exact (Kd.R_reads' HO199.out).2.2 | (with_reducible refine Kd.C_alloc ?_ _) | (with_reducible refine Kd.C_drewN ?_ _) | (with_reducible refine Kd.C_drew ?_))); (case side4 => exact (Kd.R_reads' HO199.out).2.1); rintro e w' ⟨rfl, ⟨nd, rfl⟩⟩))
                go_ret
                exact ⟨by first | rfl | (simp [errW_none, errW_some] <;> rfl) | (simp only [← hji4]; first | rfl | (simp [errW_none, errW_some] <;> rfl)) | (simp [*, errW_none, errW_some] <;> rfl), by repeat (first | (with_reducible first | exact HB.out | apply below_alloc | apply pw_below_drewN | apply below_drew1) | exact HB.out)⟩
              · rw [if_neg c28] at H
                have c28b0 : (t193 == 0) = false := beq_eq_false_iff_ne.mpr c28
                have c28b1 : (t193 != 0) = true := bne_iff_ne.mpr c28
                obtain rfl := Option.some.inj H
                go_enter Try.func8, Try.ntmps8
                go_wp2_with (first | ((with_reducible refine gate_callee (f := 24) rfl ?_); refine goesL_ (some 12) rfl rfl Try.func24 (by kernel_rfl) rfl #[.string (⟨#[]⟩ : ByteArray)] rfl (by (try simp only [List.map_toArray, List.map_cons, List.map_nil]); first | done | rfl | (simp only [List.length_drop, List.length_take]; rfl)) ?_; (with_reducible refine (pcap_Read.calls k (⟨#[]⟩ : ByteArray) t188 t189 _ A2.out).mono ?_); rintro e w35 ⟨v190, rfl, ho0, hb⟩; refine ⟨_, rfl, ?_⟩; have n0_ := Aside0.mk (Kd.R_lower ho0 (below_size (by repeat (first | (with_reducible first | exact HB.out | apply below_alloc | apply pw_below_drewN | apply below_drew1) | exact HB.out)))); have n1_ := Aside0.mk (below_step (by repeat (first | (with_reducible first | exact HB.out | apply below_alloc | apply pw_below_drewN | apply below_drew1) | exact HB.out)) hb); clear HB; have HO191 := n0_; have HB := n1_; clear n0_ n1_; (try clear hb); (try clear hb2); (try clear hk); (try clear hi); (try clear ho0)) | ((with_reducible refine gate_callee (f := 24) rfl ?_); refine goesL_ (some 24) rfl rfl Try.func24 (by kernel_rfl) rfl #[.string sxji4] rfl (by (try simp only [List.map_toArray, List.map_cons, List.map_nil]); first | done | (simp only [hji4]; rfl) | rfl | (simp only [List.length_drop, List.length_take]; rfl)) ?_; (with_reducible refine (pcap_Read.calls k sxji4 t192 t193 _ A7.out).mono ?_); rintro e w36 ⟨v194, rfl, ho0, hb⟩; refine ⟨_, rfl, ?_⟩; have n0_ := Aside0.mk (Kd.R_elder' (by (with_reducible repeat (first | apply Kd.R_alloc | apply Kd.R_drewN | apply Kd.R_drew)); exact HO191.out) (Kd.R_base ho0) hb); have n1_ := Aside0.mk (Kd.R_lower (Kd.R_new' ho0 (Kd.R_lt (by (with_reducible repeat (first | apply Kd.R_alloc | apply Kd.R_drewN | apply Kd.R_drew)); exact HO191.out))) (below_size (by repeat (first | (with_reducible first | exact HB.out | apply below_alloc | apply pw_below_drewN | apply below_drew1) | exact HB.out)))); have n2_ := Aside0.mk (below_step (by repeat (first | (with_reducible first | exact HB.out | apply below_alloc | apply pw_below_drewN | apply below_drew1) | exact HB.out)) hb); clear HO191; clear HB; have HO191 := n0_; have HO195 := n1_; have HB := n2_; clear n0_ n1_ n2_; (try clear hb); (try clear hb2); (try clear hk); (try clear hi); (try clear ho0)) | ((with_reducible refine gate_callee (f := 22) rfl ?_); refine goesL_ (some 29) rfl rfl Try.func22 (by kernel_rfl) rfl #[.string sxji4] rfl (by (try simp only [List.map_toArray, List.map_cons, List.map_nil]); first | done | (simp only [hji4]; rfl) | rfl | (simp only [List.length_drop, List.length_take]; rfl)) ?_; (with_reducible refine (patchbayref4_CaptureFront.calls k sxji4 t196 t197 _ A8.out).mono ?_); rintro e w37 ⟨v198, rfl, ho0, hb⟩; refine ⟨_, rfl, ?_⟩; have n0_ := Aside0.mk (Kd.R_elder' (by (with_reducible repeat (first | apply Kd.R_alloc | apply Kd.R_drewN | apply Kd.R_drew)); exact HO191.out) (Kd.R_base ho0) hb); have n1_ := Aside0.mk (Kd.R_elder' (by (with_reducible repeat (first | apply Kd.R_alloc | apply Kd.R_drewN | apply Kd.R_drew)); exact HO195.out) (Kd.R_base ho0) hb); have n2_ := Aside0.mk (Kd.R_lower (Kd.R_new' (Kd.R_new' ho0 (Kd.R_lt (by (with_reducible repeat (first | apply Kd.R_alloc | apply Kd.R_drewN | apply Kd.R_drew)); exact HO191.out))) (Kd.R_lt (by (with_reducible repeat (first | apply Kd.R_alloc | apply Kd.R_drewN | apply Kd.R_drew)); exact HO195.out))) (below_size (by repeat (first | (with_reducible first | exact HB.out | apply below_alloc | apply pw_below_drewN | apply below_drew1) | exact HB.out)))); have n3_ := Aside0.mk (below_step (by repeat (first | (with_reducible first | exact HB.out | apply below_alloc | apply pw_below_drewN | apply below_drew1) | exact HB.out)) hb); clear HO191; clear HO195; clear HB; have HO191 := n0_; have HO195 := n1_; have HO199 := n2_; have HB := n3_; clear n0_ n1_ n2_ n3_; (try clear hb); (try clear hb2); (try clear hk); (try clear hi); (try clear ho0)))
                go_ret
                exact ⟨by first | rfl | (simp [errW_none, errW_some] <;> rfl) | (simp only [← hji4]; first | rfl | (simp [errW_none, errW_some] <;> rfl)) | (simp [*, errW_none, errW_some] <;> rfl), by repeat (first | (with_reducible first | exact HB.out | apply below_alloc | apply pw_below_drewN | apply below_drew1) | exact HB.out)⟩
            · rw [if_neg c27] at H
              have c27b0 : (t197 == (sxji4.size : Int)) = false := beq_eq_false_iff_ne.mpr c27
              (try (have c27f0 := c27b0; rw [show (((a0).extract 0 (ji4).toNat).size : Int) = max ji4 0 by (rw [ByteArray.size_extract]; have h5_ : 0 ≤ ji4 := of_decide_eq_true (by assumption); have h6_ : ji4 ≤ (a0.size : Int) := of_decide_eq_true (by assumption); omega)] at c27f0))
              have c27b1 : (t197 != (sxji4.size : Int)) = true := bne_iff_ne.mpr c27
              (try (have c27f0 := c27b0; rw [show (((a0).extract 0 (ji4).toNat).size : Int) = max ji4 0 by (rw [ByteArray.size_extract]; have h5_ : 0 ≤ ji4 := of_decide_eq_true (by assumption); have h6_ : ji4 ≤ (a0.size : Int) := of_decide_eq_true (by assumption); omega)] at c27f0))
              (try (have c27f1 := c27b1; rw [show (((a0).extract 0 (ji4).toNat).size : Int) = max ji4 0 by (rw [ByteArray.size_extract]; have h5_ : 0 ≤ ji4 := of_decide_eq_true (by assumption); have h6_ : ji4 ≤ (a0.size : Int) := of_decide_eq_true (by assumption); omega)] at c27f1))
              (try (have c27e0 := c27b0; simp only [ByteArray.size_extract, Nat.min_self] at c27e0))
              (try (have c27e1 := c27b1; simp only [ByteArray.size_extract, Nat.min_self] at c27e1))
              by_cases c38 : 0 ≤ t197
              · rw [if_pos c38] at H
                have c38b0 := eq_true c38
                have c38b1 : decide (0 ≤ t197) = true := decide_eq_true c38
                clear c38
                by_cases c39 : t197 ≤ (sxji4.size : Int)
                · rw [if_pos c39] at H
                  have c39b0 := eq_true c39
                  have c39b1 : decide (t197 ≤ (sxji4.size : Int)) = true := decide_eq_true c39
                  (try (have c39f0 := c39b0; rw [show (((a0).extract 0 (ji4).toNat).size : Int) = max ji4 0 by (rw [ByteArray.size_extract]; have h5_ : 0 ≤ ji4 := of_decide_eq_true (by assumption); have h6_ : ji4 ≤ (a0.size : Int) := of_decide_eq_true (by assumption); omega)] at c39f0))
                  (try (have c39f1 := c39b1; rw [show (((a0).extract 0 (ji4).toNat).size : Int) = max ji4 0 by (rw [ByteArray.size_extract]; have h5_ : 0 ≤ ji4 := of_decide_eq_true (by assumption); have h6_ : ji4 ≤ (a0.size : Int) := of_decide_eq_true (by assumption); omega)] at c39f1))
                  (try (have c39e0 := c39b0; simp only [ByteArray.size_extract, Nat.min_self] at c39e0))
                  (try (have c39e1 := c39b1; simp only [ByteArray.size_extract, Nat.min_self] at c39e1))
                  clear c39
                  have HC40 := Aside0.mk H
                  clear H
                  go_enter Try.func8, Try.ntmps8
                  go_upto_region 15 with (first | ((with_reducible refine gate_callee (f := 24) rfl ?_); refine goesL_ (some 12) rfl rfl Try.func24 (by kernel_rfl) rfl #[.string (⟨#[]⟩ : ByteArray)] rfl (by (try simp only [List.map_toArray, List.map_cons, List.map_nil]); first | done | rfl | (simp only [List.length_drop, List.length_take]; rfl)) ?_; (with_reducible refine (pcap_Read.calls k (⟨#[]⟩ : ByteArray) t188 t189 _ A2.out).mono ?_); rintro e w41 ⟨v190, rfl, ho0, hb⟩; refine ⟨_, rfl, ?_⟩; have n0_ := Aside0.mk (Kd.R_lower ho0 (below_size (by repeat (first | (with_reducible first | exact HB.out | apply below_alloc | apply pw_below_drewN | apply below_drew1) | exact HB.out)))); have n1_ := Aside0.mk (below_step (by repeat (first | (with_reducible first | exact HB.out | apply below_alloc | apply pw_below_drewN | apply below_drew1) | exact HB.out)) hb); clear HB; have HO191 := n0_; have HB := n1_; clear n0_ n1_; (try clear hb); (try clear hb2); (try clear hk); (try clear hi); (try clear ho0)) | ((with_reducible refine gate_callee (f := 24) rfl ?_); refine goesL_ (some 24) rfl rfl Try.func24 (by kernel_rfl) rfl #[.string sxji4] rfl (by (try simp only [List.map_toArray, List.map_cons, List.map_nil]); first | done | (simp only [hji4]; rfl) | rfl | (simp only [List.length_drop, List.length_take]; rfl)) ?_; (with_reducible refine (pcap_Read.calls k sxji4 t192 t193 _ A7.out).mono ?_); rintro e w42 ⟨v194, rfl, ho0, hb⟩; refine ⟨_, rfl, ?_⟩; have n0_ := Aside0.mk (Kd.R_elder' (by (with_reducible repeat (first | apply Kd.R_alloc | apply Kd.R_drewN | apply Kd.R_drew)); exact HO191.out) (Kd.R_base ho0) hb); have n1_ := Aside0.mk (Kd.R_lower (Kd.R_new' ho0 (Kd.R_lt (by (with_reducible repeat (first | apply Kd.R_alloc | apply Kd.R_drewN | apply Kd.R_drew)); exact HO191.out))) (below_size (by repeat (first | (with_reducible first | exact HB.out | apply below_alloc | apply pw_below_drewN | apply below_drew1) | exact HB.out)))); have n2_ := Aside0.mk (below_step (by repeat (first | (with_reducible first | exact HB.out | apply below_alloc | apply pw_below_drewN | apply below_drew1) | exact HB.out)) hb); clear HO191; clear HB; have HO191 := n0_; have HO195 := n1_; have HB := n2_; clear n0_ n1_ n2_; (try clear hb); (try clear hb2); (try clear hk); (try clear hi); (try clear ho0)) | ((with_reducible refine gate_callee (f := 22) rfl ?_); refine goesL_ (some 29) rfl rfl Try.func22 (by kernel_rfl) rfl #[.string sxji4] rfl (by (try simp only [List.map_toArray, List.map_cons, List.map_nil]); first | done | (simp only [hji4]; rfl) | rfl | (simp only [List.length_drop, List.length_take]; rfl)) ?_; (with_reducible refine (patchbayref4_CaptureFront.calls k sxji4 t196 t197 _ A8.out).mono ?_); rintro e w43 ⟨v198, rfl, ho0, hb⟩; refine ⟨_, rfl, ?_⟩; have n0_ := Aside0.mk (Kd.R_elder' (by (with_reducible repeat (first | apply Kd.R_alloc | apply Kd.R_drewN | apply Kd.R_drew)); exact HO191.out) (Kd.R_base ho0) hb); have n1_ := Aside0.mk (Kd.R_elder' (by (with_reducible repeat (first | apply Kd.R_alloc | apply Kd.R_drewN | apply Kd.R_drew)); exact HO195.out) (Kd.R_base ho0) hb); have n2_ := Aside0.mk (Kd.R_lower (Kd.R_new' (Kd.R_new' ho0 (Kd.R_lt (by (with_reducible repeat (first | apply Kd.R_alloc | apply Kd.R_drewN | apply Kd.R_drew)); exact HO191.out))) (Kd.R_lt (by (with_reducible repeat (first | apply Kd.R_alloc | apply Kd.R_drewN | apply Kd.R_drew)); exact HO195.out))) (below_size (by repeat (first | (with_reducible first | exact HB.out | apply below_alloc | apply pw_below_drewN | apply below_drew1) | exact HB.out)))); have n3_ := Aside0.mk (below_step (by repeat (first | (with_reducible first | exact HB.out | apply below_alloc | apply pw_below_drewN | apply below_drew1) | exact HB.out)) hb); clear HO191; clear HO195; clear HB; have HO191 := n0_; have HO195 := n1_; have HO199 := n2_; have HB := n3_; clear n0_ n1_ n2_ n3_; (try clear hb); (try clear hb2); (try clear hk); (try clear hi); (try clear ho0)))
                  (try simp only [Act.put, List.setIfInBounds_toArray, List.set_cons_zero, List.set_cons_succ])
                  go_cut [85] (fun v85 wc => ∃ (kq : Nat) (x85_39 : Bool), v85 = .bool x85_39 ∧ Aside0 (patchbaylaw4_PcapReads.j0 kq t192 t193 8 x85_39 = some r) ∧ Aside0 (kq ≤ k) ∧ Aside0 (Kd.R k26 26 wc w.heap.size (fun _ => True) v194 t192) ∧ Aside0 (Below w.heap.size w wc))
                  case first =>
                    have H := HC40.out
                    clear HC40
                    by_cases c44 : ((sxji4.extract (t197 : Int).toNat sxji4.size).size : Int) < 12
                    · rw [if_pos c44] at H
                      have c44b0 : decide (((sxji4.extract (t197 : Int).toNat sxji4.size).size : Int) < 12) = true := decide_eq_true c44
                      have c44b1 : decide ((sxji4.extract (t197 : Int).toNat sxji4.size).size < 12) = true := decide_eq_true (by omega)
                      (try (have c44e0 := c44b0; simp only [ByteArray.size_extract, Nat.min_self] at c44e0))
                      (try (have c44e1 := c44b1; simp only [ByteArray.size_extract, Nat.min_self] at c44e1))
                      clear c44
                      (first | rw [c44b0] | (simp only [i64_w, i32_w]; rw [c44b0]) | skip)
                      have H' := Aside0.mk H
                      clear H
                      go_wp2
                      go_meet
                      case rel => exact ⟨_, (true), (by first | rfl | (simp; done) | (simp [*]; done)), (by first | exact H' | (subst_vars; exact H')), ⟨by first | omega | exact Nat.le_refl _⟩, ⟨by (with_reducible repeat (first | apply Kd.R_alloc | apply Kd.R_drewN | apply Kd.R_drew)); exact Kd.R_mono HO195.out (fun _ hk => trivial)⟩, ⟨by repeat (first | (with_reducible first | exact HB.out | apply below_alloc | apply pw_below_drewN | apply below_drew1) | exact HB.out)⟩⟩
                    · rw [if_neg c44] at H
                      have c44b0 : decide (((sxji4.extract (t197 : Int).toNat sxji4.size).size : Int) < 12) = false := decide_eq_false c44
                      have c44b1 : decide ((sxji4.extract (t197 : Int).toNat sxji4.size).size < 12) = false := decide_eq_false (by omega)
                      (try (have c44e0 := c44b0; simp only [ByteArray.size_extract, Nat.min_self] at c44e0))
                      (try (have c44e1 := c44b1; simp only [ByteArray.size_extract, Nat.min_self] at c44e1))
                      clear c44
                      (first | rw [c44b0] | (simp only [i64_w, i32_w]; rw [c44b0]) | skip)
                      by_cases c45 : 6 ≤ 8
                      · rw [if_pos c45] at H
                        have c45b0 := eq_true c45
                        have c45b1 : decide (6 ≤ 8) = true := decide_eq_true c45
                        clear c45
                        by_cases c46 : 8 ≤ ((sxji4.extract (t197 : Int).toNat sxji4.size).size : Int)
                        · rw [if_pos c46] at H
                          have c46b0 := eq_true c46
                          have c46b1 : decide (8 ≤ ((sxji4.extract (t197 : Int).toNat sxji4.size).size : Int)) = true := decide_eq_true c46
                          (try (have c46e0 := c46b0; simp only [ByteArray.size_extract, Nat.min_self] at c46e0))
                          (try (have c46e1 := c46b1; simp only [ByteArray.size_extract, Nat.min_self] at c46e1))
                          clear c46
                          replace H := Option.bind_eq_some_iff.mp H
                          obtain ⟨t201, A470, H⟩ := H
                          replace H : (if t201 ≤ 2000 then ((patchbayref4_Small.f k ((sxji4.extract (t197 : Int).toNat sxji4.size).extract 6 8)).bind fun t202 => (patchbaylaw4_PcapReads.j0 k t192 t193 8 (decide (((sxji4.extract (t197 : Int).toNat sxji4.size).size : Int) < (wrap64 (12 + t202)))))) else (patchbaylaw4_PcapReads.j0 k t192 t193 8 false)) = some r := H
                          have A47 := Aside0.mk A470
                          clear A470
                          by_cases c48 : t201 ≤ 2000
                          · rw [if_pos c48] at H
                            have c48b0 : decide (t201 ≤ 2000) = true := decide_eq_true c48
                            clear c48
                            have c49b0 := eq_true (of_decide_eq_true (by first | (with_reducible assumption) | assumption) : 6 ≤ 8)
                            have c50b0 := eq_true (of_decide_eq_true (by first | (with_reducible assumption) | assumption) : 8 ≤ ((sxji4.extract (t197 : Int).toNat sxji4.size).size : Int))
                            replace H := Option.bind_eq_some_iff.mp H
                            obtain ⟨t202, A510, H⟩ := H
                            replace H : (patchbaylaw4_PcapReads.j0 k t192 t193 8 (decide (((sxji4.extract (t197 : Int).toNat sxji4.size).size : Int) < (wrap64 (12 + t202))))) = some r := H
                            have A51 := Aside0.mk A510
                            clear A510
                            (try have EA51_A47 := Option.some.inj (A51.out.symm.trans A47.out))
                            have H' := Aside0.mk H
                            clear H
                            go_wp2_with (first | (go_at_call 25; (with_reducible refine (patchbayref4_Small.calls k ((sxji4.extract (t197 : Int).toNat sxji4.size).extract 6 8) t201 _ A47.out).mono ?_); rintro e w' ⟨rfl, ⟨nd, rfl⟩⟩) | (go_at_call 25; (with_reducible refine (patchbayref4_Small.calls k ((sxji4.extract (t197 : Int).toNat sxji4.size).extract 6 8) t202 _ A51.out).mono ?_); rintro e w' ⟨rfl, ⟨nd, rfl⟩⟩))
                            go_meet
                            case rel => exact ⟨_, (decide (((sxji4.extract (t197 : Int).toNat sxji4.size).size : Int) < (wrap64 (12 + t202)))), (by first | rfl | (simp; done) | (simp only [← hji4] <;> (first | rfl | simp)) | (simp [*]; done)), (by first | exact H' | (subst_vars; exact H')), ⟨by first | omega | exact Nat.le_refl _⟩, ⟨by (with_reducible repeat (first | apply Kd.R_alloc | apply Kd.R_drewN | apply Kd.R_drew)); exact Kd.R_mono HO195.out (fun _ hk => trivial)⟩, ⟨by repeat (first | (with_reducible first | exact HB.out | apply below_alloc | apply pw_below_drewN | apply below_drew1) | exact HB.out)⟩⟩
                          · rw [if_neg c48] at H
                            have c48b0 : decide (t201 ≤ 2000) = false := decide_eq_false c48
                            clear c48
                            have H' := Aside0.mk H
                            clear H
                            go_wp2_with (first | (go_at_call 25; (with_reducible refine (patchbayref4_Small.calls k ((sxji4.extract (t197 : Int).toNat sxji4.size).extract 6 8) t201 _ A47.out).mono ?_); rintro e w' ⟨rfl, ⟨nd, rfl⟩⟩))
                            go_meet
                            case rel => exact ⟨_, (false), (by first | rfl | (simp; done) | (simp [*]; done)), (by first | exact H' | (subst_vars; exact H')), ⟨by first | omega | exact Nat.le_refl _⟩, ⟨by (with_reducible repeat (first | apply Kd.R_alloc | apply Kd.R_drewN | apply Kd.R_drew)); exact Kd.R_mono HO195.out (fun _ hk => trivial)⟩, ⟨by repeat (first | (with_reducible first | exact HB.out | apply below_alloc | apply pw_below_drewN | apply below_drew1) | exact HB.out)⟩⟩
                        · rw [if_neg c46] at H
                          exact absurd H (by simp)
                      · rw [if_neg c45] at H
                        exact absurd H (by simp)
                  case rest =>
                    clear HC40
                    try clear c1
                    try clear c2
                    try clear p2
                    try clear c3
                    try clear c3b0
                    try clear c3b1
                    try clear c4
                    try clear c5
                    try clear c5b0
                    try clear c5b1
                    try clear c6
                    try clear c6b0
                    try clear c6b1
                    try clear p6
                    try clear c8
                    try clear c9
                    try clear c9b0
                    try clear c9b1
                    try clear c10
                    try clear c10b0
                    try clear c10b1
                    try clear c18
                    try clear c18b0
                    try clear c18b1
                    try clear c19
                    try clear c19b0
                    try clear c19b1
                    try clear c22
                    try clear c24
                    try clear c27
                    try clear c27b0
                    try clear c27b1
                    try clear c28
                    try clear c28b0
                    try clear c28b1
                    try clear c38
                    try clear c38b0
                    try clear c38b1
                    try clear c39
                    try clear c39b0
                    try clear c39b1
                    try clear c44
                    try clear c44b0
                    try clear c44b1
                    try clear c45
                    try clear c45b0
                    try clear c45b1
                    try clear c46
                    try clear c46b0
                    try clear c46b1
                    try clear c48
                    try clear c48b0
                    try clear c49
                    try clear c49b0
                    try clear c50
                    try clear c50b0
                    try clear c27e0
                    try clear c27e1
                    try clear c39e0
                    try clear c39e1
                    try clear c44e0
                    try clear c44e1
                    try clear c46e0
                    try clear c46e1
                    try clear c9e0
                    try clear c9e1
                    try clear hji4
                    obtain ⟨kq, x85_39, rfl, HA, HJ39, HO_5, HB⟩ := hcut
                    cases kq with
                    | zero => exact absurd HA.out (by simp [patchbaylaw4_PcapReads.j0])
                    | succ kj39 =>
                      have H := HA.out
                      clear HA
                      simp only [patchbaylaw4_PcapReads.j0] at H
                      by_cases c52 : x85_39 = true
                      · subst c52
                        have H1 : (if t193 = 9 then (some ((t192.length : Int) == 0)) else (some false)) = some r := by rw [if_pos rfl] at H; exact H
                        clear H
                        have H := H1
                        clear H1
                        by_cases c53 : t193 = 9
                        · rw [if_pos c53] at H
                          have c53b0 : (t193 == 9) = true := beq_iff_eq.mpr c53
                          have c53b1 : (t193 != 9) = false := bne_eq_false_iff_eq.mpr c53
                          clear c53
                          obtain rfl := Option.some.inj H
                          obtain ⟨Ao54, co54, eo54⟩ := Kd.R_slice HO_5.out
                          subst eo54
                          go_wp2
                          go_ret
                          exact ⟨by first | rfl | (simp [errW_none, errW_some] <;> rfl) | (simp only [← hji4]; first | rfl | (simp [errW_none, errW_some] <;> rfl)) | (simp [*, errW_none, errW_some] <;> rfl), by repeat (first | (with_reducible first | exact HB.out | apply below_alloc | apply pw_below_drewN | apply below_drew1) | exact HB.out)⟩
                        · rw [if_neg c53] at H
                          have c53b0 : (t193 == 9) = false := beq_eq_false_iff_ne.mpr c53
                          have c53b1 : (t193 != 9) = true := bne_iff_ne.mpr c53
                          obtain rfl := Option.some.inj H
                          go_wp2
                          go_ret
                          exact ⟨by first | rfl | (simp [errW_none, errW_some] <;> rfl) | (simp only [← hji4]; first | rfl | (simp [errW_none, errW_some] <;> rfl)) | (simp [*, errW_none, errW_some] <;> rfl), by repeat (first | (with_reducible first | exact HB.out | apply below_alloc | apply pw_below_drewN | apply below_drew1) | exact HB.out)⟩
                      · replace c52 := Bool.eq_false_iff.mpr c52
                        subst c52
                        have H1 : (if t193 = 8 then (some ((t192.length : Int) == 0)) else (some false)) = some r := by rw [if_neg (show ¬ (false = true) by decide)] at H; exact H
                        clear H
                        have H := H1
                        clear H1
                        by_cases c55 : t193 = 8
                        · rw [if_pos c55] at H
                          have c55b0 : (t193 == 8) = true := beq_iff_eq.mpr c55
                          have c55b1 : (t193 != 8) = false := bne_eq_false_iff_eq.mpr c55
                          clear c55
                          obtain rfl := Option.some.inj H
                          obtain ⟨Ao56, co56, eo56⟩ := Kd.R_slice HO_5.out
                          subst eo56
                          go_wp2
                          go_ret
                          exact ⟨by first | rfl | (simp [errW_none, errW_some] <;> rfl) | (simp only [← hji4]; first | rfl | (simp [errW_none, errW_some] <;> rfl)) | (simp [*, errW_none, errW_some] <;> rfl), by repeat (first | (with_reducible first | exact HB.out | apply below_alloc | apply pw_below_drewN | apply below_drew1) | exact HB.out)⟩
                        · rw [if_neg c55] at H
                          have c55b0 : (t193 == 8) = false := beq_eq_false_iff_ne.mpr c55
                          have c55b1 : (t193 != 8) = true := bne_iff_ne.mpr c55
                          obtain rfl := Option.some.inj H
                          go_wp2
                          go_ret
                          exact ⟨by first | rfl | (simp [errW_none, errW_some] <;> rfl) | (simp only [← hji4]; first | rfl | (simp [errW_none, errW_some] <;> rfl)) | (simp [*, errW_none, errW_some] <;> rfl), by repeat (first | (with_reducible first | exact HB.out | apply below_alloc | apply pw_below_drewN | apply below_drew1) | exact HB.out)⟩
                · rw [if_neg c39] at H
                  exact absurd H (by simp)
              · rw [if_neg c38] at H
                exact absurd H (by simp)
      · rw [if_neg c6] at H
        exact absurd H (by simp)
    · rw [if_neg c5] at H
      exact absurd H (by simp)
  · rw [if_neg c3] at H
    have c3b0 : (t189 == 9) = false := beq_eq_false_iff_ne.mpr c3
    have c3b1 : (t189 != 9) = true := bne_iff_ne.mpr c3
    obtain rfl := Option.some.inj H
    go_enter Try.func8, Try.ntmps8
    go_wp2_with (first | ((with_reducible refine gate_callee (f := 24) rfl ?_); refine goesL_ (some 12) rfl rfl Try.func24 (by kernel_rfl) rfl #[.string (⟨#[]⟩ : ByteArray)] rfl (by (try simp only [List.map_toArray, List.map_cons, List.map_nil]); first | done | rfl | (simp only [List.length_drop, List.length_take]; rfl)) ?_; (with_reducible refine (pcap_Read.calls k (⟨#[]⟩ : ByteArray) t188 t189 _ A2.out).mono ?_); rintro e w57 ⟨v190, rfl, ho0, hb⟩; refine ⟨_, rfl, ?_⟩; have n0_ := Aside0.mk (Kd.R_lower ho0 (below_size (by repeat (first | (with_reducible first | exact HB.out | apply below_alloc | apply pw_below_drewN | apply below_drew1) | exact HB.out)))); have n1_ := Aside0.mk (below_step (by repeat (first | (with_reducible first | exact HB.out | apply below_alloc | apply pw_below_drewN | apply below_drew1) | exact HB.out)) hb); clear HB; have HO191 := n0_; have HB := n1_; clear n0_ n1_; (try clear hb); (try clear hb2); (try clear hk); (try clear hi); (try clear ho0)))
    go_ret
    exact ⟨by first | rfl | (simp [errW_none, errW_some] <;> rfl) | (simp [*, errW_none, errW_some] <;> rfl), by repeat (first | (with_reducible first | exact HB.out | apply below_alloc | apply pw_below_drewN | apply below_drew1) | exact HB.out)⟩

/-- THE ONE PURE STATEMENT of patchbaylaw4_PcapReads: yours. -/
def patchbaylaw4_PcapReads.Pure : Prop := ∀ (a0 : ByteArray), a0.size ≤ 140737488351232 → ∃ k, patchbaylaw4_PcapReads.f k a0 = some true
theorem patchbaylaw4_PcapReads.walk (P : patchbaylaw4_PcapReads.Pure) (a0 : ByteArray) (w : World) (w0 : a0.size ≤ 140737488351232) :
    Calls Try.prog 8 #[.string a0] w fun e w' => e = .returned (.bool true) ∧ Below w.heap.size w w' := by
  obtain ⟨k, h⟩ := P a0 w0
  refine (patchbaylaw4_PcapReads.calls k a0 true w h).mono ?_
  rintro e w' ⟨rfl, hd⟩
  exact ⟨rfl, hd⟩

end Go.Proofs.Ytkolbflmihfokaa.Pcap
