/- Printed by a program of this seat's session: what the Go functions compute, and that they do. -/
import Derived.Test.YtkolbflmihfokaaDoorSiftx0
import Derived.Test.YtkolbflmihfokaaDoorSiftx3
namespace Go.Proofs.YtkolbflmihfokaaDoor.Sift
open Go.RowKit Go.Proofs.YtkolbflmihfokaaDoorW.PrintWords Go.Proofs.YtkolbflmihfokaaDoorW.PrintLast Go.Proofs.YtkolbflmihfokaaDoorW.PrintMore
attribute [local go_sem] max2_int min2_int max_two min_two max_three min_three max_four min_four   -- for this text's walks alone
set_option linter.unusedVariables false
set_option linter.unusedSimpArgs false
set_option maxRecDepth 100000

/-! ### patchbayref4_SiftFields: function 33 -/
def patchbayref4_SiftFields.f (k : Nat)  : Option (List ByteArray) := (patchbayref4_Cut.f k (⟨#[116, 105, 109, 101, 32, 110, 111, 100, 101, 32, 112, 111, 114, 116, 32, 111, 117, 116, 32, 115, 105, 122, 101, 32, 116, 97, 103, 32, 116, 121, 112, 101, 32, 112, 114, 111, 116, 111, 32, 116, 116, 108, 32, 105, 100, 32, 111, 102, 102, 32, 115, 112, 111, 114, 116, 32, 100, 112, 111, 114, 116, 32, 102, 108, 97, 103, 115, 32, 119, 105, 110, 100, 111, 119]⟩ : ByteArray) 32).bind fun t139 => (some t139)
theorem patchbayref4_SiftFields.mono : ∀ k, LeO (patchbayref4_SiftFields.f k ) (patchbayref4_SiftFields.f (k + 1) ) := by
  intro  k
  unfold patchbayref4_SiftFields.f
  repeat' first
      | (with_reducible exact patchbayref4_Cut.mono _ _ _)
      | (with_reducible exact LeO.refl _)
      | (with_reducible exact LeO.none _)
      | (with_reducible refine LeO.ite ?_ ?_)
      | (with_reducible refine LeO.bind ?_ (fun _ => ?_))
      | exact patchbayref4_Cut.mono _ _ _
      | exact LeO.none _
      | refine LeO.ite ?_ ?_
      | refine LeO.bind ?_ (fun _ => ?_)
set_option maxHeartbeats 8000000 in
set_option maxRecDepth 100000 in
theorem patchbayref4_SiftFields.calls (k : Nat)  (r : List ByteArray) (w : World) (h : patchbayref4_SiftFields.f k  = some r) :
    Calls Tryd.prog 33 #[] w fun e w' => ∃ v0_ : Value, e = .returned (v0_) ∧ Kd.R Kd.string 9 w' w.heap.size (fun _ => True) v0_ r ∧ Below w.heap.size w w' := by
  have HB := Aside0.mk (Below.refl w.heap.size w)
  have H : ((patchbayref4_Cut.f k (⟨#[116, 105, 109, 101, 32, 110, 111, 100, 101, 32, 112, 111, 114, 116, 32, 111, 117, 116, 32, 115, 105, 122, 101, 32, 116, 97, 103, 32, 116, 121, 112, 101, 32, 112, 114, 111, 116, 111, 32, 116, 116, 108, 32, 105, 100, 32, 111, 102, 102, 32, 115, 112, 111, 114, 116, 32, 100, 112, 111, 114, 116, 32, 102, 108, 97, 103, 115, 32, 119, 105, 110, 100, 111, 119]⟩ : ByteArray) 32).bind fun t139 => (some t139)) = some r := h
  clear h
  replace H := Option.bind_eq_some_iff.mp H
  obtain ⟨t139, A10, H⟩ := H
  replace H : (some t139) = some r := H
  have A1 := Aside0.mk A10
  clear A10
  obtain rfl := Option.some.inj H
  go_enter Tryd.func33, Tryd.ntmps33
  go_wp2_with (first | ((with_reducible refine gate_callee (f := 46) rfl ?_); refine goesL_ (some 1) rfl rfl Tryd.func46 (by kernel_rfl) rfl #[.string (⟨#[116, 105, 109, 101, 32, 110, 111, 100, 101, 32, 112, 111, 114, 116, 32, 111, 117, 116, 32, 115, 105, 122, 101, 32, 116, 97, 103, 32, 116, 121, 112, 101, 32, 112, 114, 111, 116, 111, 32, 116, 116, 108, 32, 105, 100, 32, 111, 102, 102, 32, 115, 112, 111, 114, 116, 32, 100, 112, 111, 114, 116, 32, 102, 108, 97, 103, 115, 32, 119, 105, 110, 100, 111, 119]⟩ : ByteArray), .int .u8 32] rfl (by (try simp only [List.map_toArray, List.map_cons, List.map_nil]); first | done | rfl | (simp only [List.length_drop, List.length_take]; rfl)) ?_; (with_reducible refine (patchbayref4_Cut.calls k (⟨#[116, 105, 109, 101, 32, 110, 111, 100, 101, 32, 112, 111, 114, 116, 32, 111, 117, 116, 32, 115, 105, 122, 101, 32, 116, 97, 103, 32, 116, 121, 112, 101, 32, 112, 114, 111, 116, 111, 32, 116, 116, 108, 32, 105, 100, 32, 111, 102, 102, 32, 115, 112, 111, 114, 116, 32, 100, 112, 111, 114, 116, 32, 102, 108, 97, 103, 115, 32, 119, 105, 110, 100, 111, 119]⟩ : ByteArray) 32 t139 _ A1.out).mono ?_); rintro e w2 ⟨v140, rfl, ho0, hb⟩; refine ⟨_, rfl, ?_⟩; have n0_ := Aside0.mk (Kd.R_lower ho0 (below_size (by repeat (first | (with_reducible first | exact HB.out | apply below_alloc | apply pw_below_drewN | apply below_drew1) | exact HB.out)))); have n1_ := Aside0.mk (below_step (by repeat (first | (with_reducible first | exact HB.out | apply below_alloc | apply pw_below_drewN | apply below_drew1) | exact HB.out)) hb); clear HB; have HO141 := n0_; have HB := n1_; clear n0_ n1_; (try clear hb); (try clear hb2); (try clear hk); (try clear hi); (try clear ho0)))
  go_ret
  exact ⟨_, by first | rfl | (simp [errW_none, errW_some] <;> rfl) | (simp [*, errW_none, errW_some] <;> rfl), by (with_reducible repeat (first | apply Kd.R_alloc | apply Kd.R_drewN | apply Kd.R_drew)); exact HO141.out, by repeat (first | (with_reducible first | exact HB.out | apply below_alloc | apply pw_below_drewN | apply below_drew1) | exact HB.out)⟩

end Go.Proofs.YtkolbflmihfokaaDoor.Sift
