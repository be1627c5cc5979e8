/- The variable sift.numbers: what its list reads, and what sift.isNumber answers of it. -/
import Derived.Test.YtlkllccbcfhekaaDoorSiftx1
import Derived.WalkSmall
namespace Go.Proofs.YtlkllccbcfhekaaDoor.Sift
open Go.RowKit Go.Proofs.YtlkllccbcfhekaaDoorW.PrintWords Go.Proofs.YtlkllccbcfhekaaDoorW.PrintLast Go.Proofs.YtlkllccbcfhekaaDoorW.PrintMore

def numbersL : List ByteArray := [⟨#[116, 105, 109, 101]⟩, ⟨#[110, 111, 100, 101]⟩, ⟨#[112, 111, 114, 116]⟩, ⟨#[111, 117, 116]⟩, ⟨#[115, 105, 122, 101]⟩, ⟨#[116, 97, 103]⟩, ⟨#[116, 121, 112, 101]⟩, ⟨#[112, 114, 111, 116, 111]⟩, ⟨#[116, 116, 108]⟩, ⟨#[105, 100]⟩, ⟨#[111, 102, 102]⟩, ⟨#[115, 112, 111, 114, 116]⟩, ⟨#[100, 112, 111, 114, 116]⟩, ⟨#[102, 108, 97, 103, 115]⟩, ⟨#[119, 105, 110, 100, 111, 119]⟩]
/-- The variable reads as it was laid. -/
def Nums (w : World) : Prop := 0 < w.heap.size ∧ ∃ A c, w.cell? ⟨0, 0, none⟩ = some (.slice A numbersL.length c) ∧ Kd.C Kd.string w A numbersL.length numbersL ∧ numbersL.length ≤ c
theorem Nums.below {w w' : World} (h : Nums w) (hb : Below w.heap.size w w') : Nums w' := by
  obtain ⟨h1, A, c, h2, h3, h4⟩ := h
  refine ⟨Nat.lt_of_lt_of_le h1 hb.size, A, c, ?_, Kd.C_below h3 hb, h4⟩
  simp only [World.cell?] at h2 ⊢
  rw [hb.block 0 h1]
  exact h2
def sift_isNumber.f (k : Nat) (a0 : ByteArray) : Option Bool := slices_Contains_string_string.f k numbersL a0
theorem sift_isNumber.mono : ∀ a0 k, LeO (sift_isNumber.f k a0) (sift_isNumber.f (k + 1) a0) := fun a0 k => slices_Contains_string_string.mono numbersL a0 k
set_option maxHeartbeats 2000000 in
set_option maxRecDepth 100000 in
theorem sift_isNumber.calls (k : Nat) (a0 : ByteArray) (r : Bool) (w : World) (hN : Nums w) (h : sift_isNumber.f k a0 = some r) :
    Calls Tryd.prog 67 #[.string a0] w fun e w' => e = .returned (.bool r) ∧ Drawn0 w w' := by
  obtain ⟨h1, A, c, h2, h3, h4⟩ := hN
  have H : slices_Contains_string_string.f k numbersL a0 = some r := h
  clear h
  have HR0 := Aside0.mk h3
  have HC0 := Aside0.mk h4
  have A3 := Aside0.mk H
  clear h3 h4 H
  generalize hn : numbersL = nl at *
  clear hn
  go_enter Tryd.func67, Tryd.ntmps67
  go_wp2_with (first | ((with_reducible refine gate_callee (f := 75) rfl ?_); refine goesL_ (some 5) rfl rfl Tryd.func75 (by kernel_rfl) rfl #[.slice A nl.length c, .string a0] rfl (by (try simp only [List.map_toArray, List.map_cons, List.map_nil]); first | done | rfl) ?_; (with_reducible refine (slices_Contains_string_string.calls k _ _ nl a0 r _ ?side1 ?side2 A3.out).mono ?_); (case side1 => repeat (first | exact HR0.out | (with_reducible refine Kd.C_alloc ?_ _) | (with_reducible refine Kd.C_drewN ?_ _) | (with_reducible refine Kd.C_drew ?_))); (case side2 => exact HC0.out); rintro e w' ⟨rfl, ⟨nd, rfl⟩⟩; refine ⟨_, rfl, ?_⟩))
  go_ret
  exact ⟨by first | rfl | (simp; done) | (simp [*]; done), by repeat (first | exact Drawn0.refl _ | apply Drawn0.step)⟩
end Go.Proofs.YtlkllccbcfhekaaDoor.Sift
