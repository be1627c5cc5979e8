/- Printed by a program of this seat's session: what the Go functions compute, and that they do. -/
import Derived.Test.YtbcocpaeehgmnaaDoorZonex0
import Derived.Test.YtbcocpaeehgmnaaDoorZonex4
import Derived.Test.YtbcocpaeehgmnaaDoorGoesV
import Derived.Test.YtbcocpaeehgmnaaDoorXClear
namespace Go.Proofs.YtbcocpaeehgmnaaDoor.Zone
open Go.RowKit Go.Proofs.YtbcocpaeehgmnaaDoorW.PrintWords Go.Proofs.YtbcocpaeehgmnaaDoorW.PrintLast Go.Proofs.YtbcocpaeehgmnaaDoorW.PrintMore
attribute [local go_sem] max2_int min2_int max_two min_two max_three min_three max_four min_four   -- for this text's walks alone
set_option linter.unusedVariables false
set_option linter.unusedSimpArgs false
set_option maxRecDepth 100000

/-! ### api_ZoneRecord_65: function 65 -/
mutual
def api_ZoneRecord_65.l0 : Nat → List (S68) → Int → Option ((List (S68)))
  | 0, _, _ => none
  | k + 1, x0, x5 => if x5 < (x0.length : Int) then (if 0 ≤ x5 then (if 0 ≤ (wrap64 (x5 - 1)) then (if (wrap64 (x5 - 1)) < (x0.length : Int) then ((zone_Sort_1.f k ((rd_T68 x0 x5).f0) ((rd_T68 x0 x5).f1) ((rd_T68 x0 x5).f2) ((rd_T68 x0 x5).f3) ((rd_T68 x0 (wrap64 (x5 - 1))).f0) ((rd_T68 x0 (wrap64 (x5 - 1))).f1) ((rd_T68 x0 (wrap64 (x5 - 1))).f2) ((rd_T68 x0 (wrap64 (x5 - 1))).f3)).bind fun t215 => (if t215 = true then (if x5 ≤ (x0.length : Int) then (api_ZoneRecord_65.l1 k x0 x5 x5 1) else (none)) else (api_ZoneRecord_65.l0 k x0 (wrap64 (x5 + 1))))) else (none)) else (none)) else (none)) else (some x0)
def api_ZoneRecord_65.l1 : Nat → List (S68) → Int → Int → Int → Option ((List (S68)))
  | 0, _, _, _, _ => none
  | k + 1, x0, x5, x6, x7 => if x7 < ((x0.drop (x6 : Int).toNat).length : Int) then (if 0 ≤ x7 then (if 0 ≤ (wrap64 (x7 - 1)) then (if (wrap64 (x7 - 1)) < ((x0.drop (x6 : Int).toNat).length : Int) then ((zone_Sort_1.f k ((rd_T68 (x0.drop (x6 : Int).toNat) x7).f0) ((rd_T68 (x0.drop (x6 : Int).toNat) x7).f1) ((rd_T68 (x0.drop (x6 : Int).toNat) x7).f2) ((rd_T68 (x0.drop (x6 : Int).toNat) x7).f3) ((rd_T68 (x0.drop (x6 : Int).toNat) (wrap64 (x7 - 1))).f0) ((rd_T68 (x0.drop (x6 : Int).toNat) (wrap64 (x7 - 1))).f1) ((rd_T68 (x0.drop (x6 : Int).toNat) (wrap64 (x7 - 1))).f2) ((rd_T68 (x0.drop (x6 : Int).toNat) (wrap64 (x7 - 1))).f3)).bind fun t222 => (if t222 = true then (api_ZoneRecord_65.l1 k x0 x5 x6 (wrap64 (x7 + 1))) else (if 0 ≤ x5 then (if x5 < (x0.length : Int) then (api_ZoneRecord_65.l1 k (x0.set (x5 : Int).toNat (⟨(rd_T68 (x0.drop (x6 : Int).toNat) x7).f0, (rd_T68 (x0.drop (x6 : Int).toNat) x7).f1, (rd_T68 (x0.drop (x6 : Int).toNat) x7).f2, (rd_T68 (x0.drop (x6 : Int).toNat) x7).f3⟩ : S68)) (wrap64 (x5 + 1)) x6 (wrap64 (x7 + 1))) else (none)) else (none)))) else (none)) else (none)) else (none)) else (if 0 ≤ x5 then (if x5 ≤ (x0.length : Int) then (some (x0.take (x5 : Int).toNat)) else (none)) else (none))
end
def api_ZoneRecord_65.f (k : Nat) (l0 : List (S68)) : Option ((List (S68))) := if (l0.length : Int) < 2 then (some l0) else (api_ZoneRecord_65.l0 k l0 1)
theorem api_ZoneRecord_65.mono_l : ∀ k, (∀ y0 y1, LeO (api_ZoneRecord_65.l0 k y0 y1) (api_ZoneRecord_65.l0 (k + 1) y0 y1)) ∧ (∀ y0 y1 y2 y3, LeO (api_ZoneRecord_65.l1 k y0 y1 y2 y3) (api_ZoneRecord_65.l1 (k + 1) y0 y1 y2 y3))
  | 0 => ⟨fun _ _ r h => by simp [api_ZoneRecord_65.l0] at h, fun _ _ _ _ r h => by simp [api_ZoneRecord_65.l1] at h⟩
  | k + 1 => by
    obtain ⟨ih0, ih1⟩ := api_ZoneRecord_65.mono_l k
    refine ⟨?_, ?_⟩
    · intro y0 y1
      unfold api_ZoneRecord_65.l0
      repeat' first
      | (with_reducible exact LeO.refl _)
      | exact ih0 _ _
      | exact ih1 _ _ _ _
      | exact zone_Sort_1.mono _ _ _ _ _ _ _ _ _
      | exact LeO.none _
      | refine LeO.ite ?_ ?_
      | refine LeO.bind ?_ (fun _ => ?_)
    · intro y0 y1 y2 y3
      unfold api_ZoneRecord_65.l1
      repeat' first
      | (with_reducible exact LeO.refl _)
      | exact ih0 _ _
      | exact ih1 _ _ _ _
      | exact zone_Sort_1.mono _ _ _ _ _ _ _ _ _
      | exact LeO.none _
      | refine LeO.ite ?_ ?_
      | refine LeO.bind ?_ (fun _ => ?_)
theorem api_ZoneRecord_65.mono : ∀ a0 k, LeO (api_ZoneRecord_65.f k a0) (api_ZoneRecord_65.f (k + 1) a0) := by
  intro a0 k
  obtain ⟨ih0, ih1⟩ := api_ZoneRecord_65.mono_l k
  unfold api_ZoneRecord_65.f
  repeat' first
      | (with_reducible exact LeO.refl _)
      | exact ih0 _ _
      | exact ih1 _ _ _ _
      | exact zone_Sort_1.mono _ _ _ _ _ _ _ _ _
      | exact LeO.none _
      | refine LeO.ite ?_ ?_
      | refine LeO.bind ?_ (fun _ => ?_)
def api_ZoneRecord_65.T6 : Bool × List (List Nat × List Nat) := (true, [([], []), ([], []), ([], []), ([1, 2], [1, 2]), ([3], [3]), ([], []), ([], []), ([6], [6]), ([5, 7], [5, 7]), ([8], [8]), ([0, 4, 9], [0, 4, 9])])
def api_ZoneRecord_65.B6 : List Nat := [0, 0, 0, 6, 14, 0, 0, 64, 224, 480, 1023]
theorem api_ZoneRecord_65.tab6 : rtab .any (opsOf Tryd.f65 6) = api_ZoneRecord_65.T6 := by kernel_rfl
theorem api_ZoneRecord_65.bits6 : waitsOk api_ZoneRecord_65.T6.2 api_ZoneRecord_65.B6 = true := by kernel_rfl
def api_ZoneRecord_65.T11 : Bool × List (List Nat × List Nat) := (true, [([], []), ([], []), ([], []), ([1, 2], [1, 2]), ([3], [3]), ([], []), ([], []), ([6], [6]), ([5, 7], [5, 7]), ([8], [8]), ([0, 4, 9], [0, 4, 9]), ([10], [10])])
def api_ZoneRecord_65.B11 : List Nat := [0, 0, 0, 6, 14, 0, 0, 64, 224, 480, 1023, 2047]
theorem api_ZoneRecord_65.tab11 : rtab .any (opsOf Tryd.f65 11) = api_ZoneRecord_65.T11 := by kernel_rfl
theorem api_ZoneRecord_65.bits11 : waitsOk api_ZoneRecord_65.T11.2 api_ZoneRecord_65.B11 = true := by kernel_rfl
theorem cut_reads {w1 : World} {base n co s : Nat} {ok : Nat → Prop} {ad : Addr} {xs : List S68} (h : Kd.R k68 68 w1 base ok (.slice (some ad) n co) xs) (hs : s ≤ xs.length) : Kd.C k68 w1 (if co = s then (some ad) else ((some ad) : Option Addr).map (·.add (s * 4))) (xs.drop s).length (xs.drop s) := by
  obtain ⟨h1, h2, h3⟩ := Kd.R_reads' h
  exact Kd.C_drop (m := s) (c := co) h3 hs (by omega)
set_option maxHeartbeats 8000000 in
set_option maxRecDepth 100000 in
theorem api_ZoneRecord_65.calls (k : Nat) (P0_ : Nat → Prop) (u9000_ : Value) (l0 : List (S68)) (r : List (S68)) (w0 w : World) (hB : Below w0.heap.size w0 w) (ho0 : Kd.R k68 68 w w0.heap.size P0_ u9000_ l0) (h : api_ZoneRecord_65.f k l0 = some r) :
    Calls Tryd.prog 65 #[u9000_, .func (.func 66) #[] #[]] w fun e w' => ∃ v0_ : Value, e = .returned (v0_) ∧ Kd.R k68 68 w' w0.heap.size (fun k_ => (P0_ k_ ∨ w.heap.size ≤ k_)) v0_ r ∧ Below w0.heap.size w0 w' ∧ Kept w w' (fun k_ => P0_ k_) := by
  have hu68 := Tryd.underlying68
  have HO0 := Aside0.mk (show Kd.R k68 68 w w0.heap.size (fun k_ => (P0_ k_ ∨ w.heap.size ≤ k_)) u9000_ l0 from Kd.R_mono ho0 (fun k_ hk => (.inl hk)))
  have HK := Aside0.mk (Kept.refl w (fun k_ => P0_ k_))
  have HW0 := Aside0.mk hB.size
  have HB := Aside0.mk hB; clear hB
  have H : (if (l0.length : Int) < 2 then (some l0) else (api_ZoneRecord_65.l0 k l0 1)) = some r := h
  clear h
  by_cases c2 : (l0.length : Int) < 2
  · rw [if_pos c2] at H
    have c2b0 : decide ((l0.length : Int) < 2) = true := decide_eq_true c2
    have c2b1 : decide (l0.length < 2) = true := decide_eq_true (by omega)
    clear c2; obtain rfl := Option.some.inj H
    obtain ⟨Ao3, co3, eo3⟩ := Kd.R_slice HO0.out
    subst eo3
    go_enter Tryd.func65, Tryd.ntmps65
    go_wp2
    go_ret
    exact ⟨_, by first | rfl | (simp [errW_none, errW_some] <;> rfl) | (simp [*, errW_none, errW_some] <;> rfl), by (with_reducible repeat (first | apply Kd.R_alloc | apply Kd.R_drewN | apply Kd.R_drew)); exact HO0.out, by repeat (first | (with_reducible first | exact HB.out | apply below_alloc | apply pw_below_drewN | apply below_drew1) | exact HB.out), by repeat (first | (with_reducible first | exact HK.out | apply Kept.alloc | apply Kept.drewN | apply Kept.drew) | exact HK.out)⟩
  · rw [if_neg c2] at H
    have c2b0 : decide ((l0.length : Int) < 2) = false := decide_eq_false c2
    have c2b1 : decide (l0.length < 2) = false := decide_eq_false (by omega)
    clear c2
    have H' := Aside0.mk H
    clear H
    obtain ⟨Ao4, co4, eo4⟩ := Kd.R_slice HO0.out
    subst eo4
    go_enter Tryd.func65, Tryd.ntmps65
    go_wp2
    (try simp only [Act.put, sA, sB, sC])
    go_loopg [5] k (fun kq v5 w' => ∃ (x0_1 : List (S68)) (x5_1 : Int), v5 = .int .i64 x5_1 ∧ Aside0 (api_ZoneRecord_65.l0 kq x0_1 x5_1 = some r) ∧ Aside0 (kq ≤ k) ∧ Aside0 (Kd.R k68 68 w' w0.heap.size (fun k_ => (P0_ k_ ∨ w.heap.size ≤ k_)) (.slice Ao4 l0.length co4) x0_1) ∧ Aside0 (Kept w w' (fun k_ => P0_ k_)) ∧ Aside0 (Below w0.heap.size w0 w'))
    case atStart => exact ⟨(l0), (1), (by first | rfl | (simp; done) | (simp [*]; done)), H', ⟨Nat.le_refl _⟩, ⟨by (with_reducible repeat (first | apply Kd.R_alloc | apply Kd.R_drewN | apply Kd.R_drew)); exact HO0.out⟩, ⟨by repeat (first | (with_reducible first | exact HK.out | apply Kept.alloc | apply Kept.drewN | apply Kept.drew) | exact HK.out)⟩, ⟨by repeat (first | (with_reducible first | exact HB.out | apply below_alloc | apply pw_below_drewN | apply below_drew1) | exact HB.out)⟩⟩
    case round =>
      clear H'
      (try clear c2); (try clear c2b0); (try clear c2b1); (try clear p2)
      obtain ⟨x0_1, x5_1, rfl, HA, HK1, HO_0, HK, HB⟩ := hrel
      have hl0_1 := (Kd.R_reads' HO_0.out).1
      rw [hl0_1] at HO_0
      (try simp only [hl0_1])
      cases gk with
      | zero => exact absurd HA.out (by simp [api_ZoneRecord_65.l0])
      | succ k1 =>
        have H := HA.out; clear HA
        simp only [api_ZoneRecord_65.l0] at H
        by_cases c5 : x5_1 < (x0_1.length : Int)
        · rw [if_pos c5] at H
          have c5b0 : decide (x5_1 < (x0_1.length : Int)) = true := decide_eq_true c5
          clear c5
          by_cases c6 : 0 ≤ x5_1
          rotate_left
          · rw [if_neg c6] at H; exact absurd H (by simp)
          rw [if_pos c6] at H
          have c6b0 : decide (0 ≤ x5_1) = true := decide_eq_true c6
          clear c6
          obtain ⟨ji7, hji7⟩ : ∃ j_ : Int, (wrap64 (x5_1 - 1)) = j_ := ⟨_, rfl⟩
          replace H : (if 0 ≤ (ji7) then (if (ji7) < (x0_1.length : Int) then ((zone_Sort_1.f k1 ((rd_T68 x0_1 x5_1).f0) ((rd_T68 x0_1 x5_1).f1) ((rd_T68 x0_1 x5_1).f2) ((rd_T68 x0_1 x5_1).f3) ((rd_T68 x0_1 (ji7)).f0) ((rd_T68 x0_1 (ji7)).f1) ((rd_T68 x0_1 (ji7)).f2) ((rd_T68 x0_1 (ji7)).f3)).bind fun t215 => (if t215 = true then (if x5_1 ≤ (x0_1.length : Int) then (api_ZoneRecord_65.l1 k1 x0_1 x5_1 x5_1 1) else (none)) else (api_ZoneRecord_65.l0 k1 x0_1 (wrap64 (x5_1 + 1))))) else (none)) else (none)) = some r := by first | (rw [hji7] at H; exact H) | (simp only [hji7] at H ⊢; exact H)
          have hji7w : (IntKind.i64.wrap (x5_1 - 1)) = ji7 := (i64_w _).trans hji7
          by_cases c8 : 0 ≤ (ji7)
          rotate_left
          · rw [if_neg c8] at H; exact absurd H (by simp)
          rw [if_pos c8] at H
          have c8b0 : decide (0 ≤ (ji7)) = true := decide_eq_true c8
          clear c8
          by_cases c9 : (ji7) < (x0_1.length : Int)
          rotate_left
          · rw [if_neg c9] at H; exact absurd H (by simp)
          rw [if_pos c9] at H
          have c9b0 : decide ((ji7) < (x0_1.length : Int)) = true := decide_eq_true c9
          clear c9; replace H := Option.bind_eq_some_iff.mp H
          obtain ⟨t215, A100, H⟩ := H
          replace H : (if t215 = true then (if x5_1 ≤ (x0_1.length : Int) then (api_ZoneRecord_65.l1 k1 x0_1 x5_1 x5_1 1) else (none)) else (api_ZoneRecord_65.l0 k1 x0_1 (wrap64 (x5_1 + 1)))) = some r := H
          have A10 := Aside0.mk A100; clear A100
          (try have EA10_A10 := Option.some.inj (A10.out.symm.trans A10.out))
          by_cases c11 : t215 = true
          · subst c11
            have H1 : (if x5_1 ≤ (x0_1.length : Int) then (api_ZoneRecord_65.l1 k1 x0_1 x5_1 x5_1 1) else (none)) = some r := by rw [if_pos rfl] at H; exact H
            clear H; have H := H1; clear H1
            have c12b0 := eq_true (of_decide_eq_true (by first | (with_reducible assumption) | assumption) : 0 ≤ x5_1)
            by_cases c13 : x5_1 ≤ (x0_1.length : Int)
            rotate_left
            · rw [if_neg c13] at H; exact absurd H (by simp)
            rw [if_pos c13] at H
            have c13b0 := eq_true c13
            have c13b1 : decide (x5_1 ≤ (x0_1.length : Int)) = true := decide_eq_true c13
            clear c13
            obtain ⟨y216, hy216⟩ : ∃ y_ : List (S68), y_ = (x0_1.drop (x5_1 : Int).toNat) := ⟨_, rfl⟩
            replace H : (api_ZoneRecord_65.l1 k1 x0_1 x5_1 x5_1 1) = some r := H
            have Ny216 := Aside0.mk hy216; clear hy216
            have H' := Aside0.mk H
            clear H; (try go_wp2); have n0_ := Aside0.mk (Kd.R_drew HO_0.out); have n1_ := Aside0.mk (Kept.drew HK.out); have n2_ := Aside0.mk (below_drew1 HB.out); clear HO_0; clear HK; clear HB; have HO_0 := n0_; have HK := n1_; have HB := n2_; clear n0_ n1_ n2_
            have p213 : 0 ≤ (x5_1 : Int) := of_decide_eq_true (by first | (with_reducible assumption) | assumption)
            have q213 : x5_1 < (x0_1.length : Int) := of_decide_eq_true (by first | (with_reducible assumption) | assumption)
            obtain ⟨ad213, e213, hx213_0, hx213_1, hx213_2, hx213_3⟩ := at_T68 (Kd.R_reads' HO_0.out).2.2 x5_1 p213 q213
            cases e213; replace p213 := eq_true p213; replace q213 := eq_true q213
            have p214 : 0 ≤ ((ji7) : Int) := of_decide_eq_true (by first | (with_reducible assumption) | assumption)
            have q214 : (ji7) < (x0_1.length : Int) := of_decide_eq_true (by first | (with_reducible assumption) | assumption)
            obtain ⟨ad214, e214, hx214_0, hx214_1, hx214_2, hx214_3⟩ := at_T68 (Kd.R_reads' HO_0.out).2.2 (ji7) p214 q214
            obtain rfl : ad213 = ad214 := (by injection e214)
            replace p214 := eq_true p214; replace q214 := eq_true q214
            refine start_ (n := 11) (S := fun w' => w'.cell? (ad213.add ((x5_1).toNat * 4)) = some (.string ((rd_T68 x0_1 x5_1).f0)) ∧ w'.cell? ⟨(ad213.add ((x5_1).toNat * 4)).block, (ad213.add ((x5_1).toNat * 4)).off + 1, none⟩ = some (.int .i64 ((rd_T68 x0_1 x5_1).f1)) ∧ w'.cell? ⟨(ad213.add ((x5_1).toNat * 4)).block, (ad213.add ((x5_1).toNat * 4)).off + 2, none⟩ = some (.int .i64 ((rd_T68 x0_1 x5_1).f2)) ∧ w'.cell? ⟨(ad213.add ((x5_1).toNat * 4)).block, (ad213.add ((x5_1).toNat * 4)).off + 3, none⟩ = some (.string ((rd_T68 x0_1 x5_1).f3)) ∧ w'.cell? (ad213.add (((ji7)).toNat * 4)) = some (.string ((rd_T68 x0_1 (ji7)).f0)) ∧ w'.cell? ⟨(ad213.add (((ji7)).toNat * 4)).block, (ad213.add (((ji7)).toNat * 4)).off + 1, none⟩ = some (.int .i64 ((rd_T68 x0_1 (ji7)).f1)) ∧ w'.cell? ⟨(ad213.add (((ji7)).toNat * 4)).block, (ad213.add (((ji7)).toNat * 4)).off + 2, none⟩ = some (.int .i64 ((rd_T68 x0_1 (ji7)).f2)) ∧ w'.cell? ⟨(ad213.add (((ji7)).toNat * 4)).block, (ad213.add (((ji7)).toNat * 4)).off + 3, none⟩ = some (.string ((rd_T68 x0_1 (ji7)).f3))) (ds := []) #[ff, ff, ff, ff, ff, ff, ff, ff, ff, ff, ff] (by kernel_rfl) rfl rfl ⟨hx213_0, hx213_1, hx213_2, hx213_3, hx214_0, hx214_1, hx214_2, hx214_3⟩ (fun hHeld => ?_); refine with_tabW api_ZoneRecord_65.tab6 api_ZoneRecord_65.bits6 (fun HT_ HW_ => ?_)
            generalize wr.drew = w14 at HO_0 HK HB hx213_0 hx213_1 hx213_2 hx213_3 hx214_0 hx214_1 hx214_2 hx214_3 hHeld ⊢
            refine pure_ (i := 0) (N := some 18) (v := ?_) (a' := ?_) #[tt, ff, ff, ff, ff, ff, ff, ff, ff, ff, ff] rfl rfl (any_of HT_.out (by kernel_rfl)) (fun _ _ _ h => h) (Or.inl ⟨by rfl, ?_⟩) ?_ ?_; rotate_left; (· intro w'; go_simp; with_reducible rfl); rotate_left; (· simp only [Act.put, sA, sB, sC, i64_w, i32_w]; rfl)
            refine pure_ (i := 1) (N := some 19) (v := ?_) (a' := ?_) #[tt, tt, ff, ff, ff, ff, ff, ff, ff, ff, ff] rfl rfl (any_of HT_.out (by kernel_rfl)) (fun _ _ _ h => h) (Or.inl ⟨by rfl, ?_⟩) ?_ ?_; rotate_left; (· intro w'; go_simp; with_reducible rfl); rotate_left; (· simp only [Act.put, sA, sB, sC, i64_w, i32_w]; rfl)
            refine pure_ (i := 2) (N := some 20) (v := ?_) (a' := ?_) #[tt, tt, tt, ff, ff, ff, ff, ff, ff, ff, ff] rfl rfl (any_of HT_.out (by kernel_rfl)) (fun _ _ _ h => h) (Or.inl ⟨by rfl, ?_⟩) ?_ ?_; rotate_left; (· intro w'; go_simp; with_reducible rfl); rotate_left; (· simp only [Act.put, sA, sB, sC, i64_w, i32_w]; rfl)
            refine pure_ (i := 3) (N := some 21) (v := ?_) (a' := ?_) #[tt, tt, tt, tt, ff, ff, ff, ff, ff, ff, ff] rfl rfl (any_of HT_.out (by kernel_rfl)) (fun _ _ _ h => h) (Or.inl ⟨by rfl, ?_⟩) ?_ ?_; rotate_left; (· intro w'; go_simp; with_reducible rfl); rotate_left; (· simp only [Act.put, sA, sB, sC, i64_w, i32_w]; rfl)
            refine pure_ (i := 5) (N := some 23) (v := ?_) (a' := ?_) #[tt, tt, tt, tt, ff, tt, ff, ff, ff, ff, ff] rfl rfl (any_of HT_.out (by kernel_rfl)) (fun _ _ _ h => h) (Or.inl ⟨by rfl, ?_⟩) ?_ ?_; rotate_left; (· intro w'; go_simp; with_reducible rfl); rotate_left; (· simp only [Act.put, sA, sB, sC, i64_w, i32_w]; rfl)
            refine pure_ (i := 6) (N := some 24) (v := ?_) (a' := ?_) #[tt, tt, tt, tt, ff, tt, tt, ff, ff, ff, ff] rfl rfl (any_of HT_.out (by kernel_rfl)) (fun _ _ _ h => h) (Or.inl ⟨by rfl, ?_⟩) ?_ ?_; rotate_left; (· intro w'; go_simp; with_reducible rfl); rotate_left; (· simp only [Act.put, sA, sB, sC, i64_w, i32_w]; rfl)
            refine pure_ (i := 7) (N := some 25) (v := ?_) (a' := ?_) #[tt, tt, tt, tt, ff, tt, tt, tt, ff, ff, ff] rfl rfl (any_of HT_.out (by kernel_rfl)) (fun _ _ _ h => h) (Or.inl ⟨by rfl, ?_⟩) ?_ ?_; rotate_left; (· intro w'; go_simp; with_reducible rfl); rotate_left; (· simp only [Act.put, sA, sB, sC, i64_w, i32_w]; rfl)
            refine pure_ (i := 8) (N := some 26) (v := ?_) (a' := ?_) #[tt, tt, tt, tt, ff, tt, tt, tt, tt, ff, ff] rfl rfl (any_of HT_.out (by kernel_rfl)) (fun _ _ _ h => h) (Or.inl ⟨by rfl, ?_⟩) ?_ ?_; rotate_left; (· intro w'; go_simp; with_reducible rfl); rotate_left; (· simp only [Act.put, sA, sB, sC, i64_w, i32_w]; rfl)
            refine take_ (i := 4) (N := some 22) (v := ?_) (a' := ?_) #[tt, tt, tt, tt, tt, tt, tt, tt, tt, ff, ff] rfl rfl (take_ofW HT_.out HW_.out (by kernel_rfl)) (fun _ _ _ h => h) (Or.inl ⟨by rfl, ?_⟩) hHeld ?_ ?_; rotate_left; (· rintro w' ⟨s0, s1, s2, s3, s4, s5, s6, s7⟩; go_simp; with_reducible rfl); rotate_left; (· simp only [Act.put, sA, sB, sC, i64_w, i32_w]; rfl)
            refine take_ (i := 9) (N := some 27) (v := ?_) (a' := ?_) #[tt, tt, tt, tt, tt, tt, tt, tt, tt, tt, ff] rfl rfl (take_ofW HT_.out HW_.out (by kernel_rfl)) (fun _ _ _ h => h) (Or.inl ⟨by rfl, ?_⟩) hHeld ?_ ?_; rotate_left; (· rintro w' ⟨s0, s1, s2, s3, s4, s5, s6, s7⟩; go_simp; with_reducible rfl); rotate_left; (· simp only [Act.put, sA, sB, sC, i64_w, i32_w]; rfl)
            refine one_ (i := 10) (N := some 28) #[tt, tt, tt, tt, tt, tt, tt, tt, tt, tt, tt] rfl rfl (one_of HT_.out (by kernel_rfl)) (by decide) (fun K hK => ?_)
            refine goesV_ Tryd.func66 (by kernel_rfl) rfl #[.agg #[.string ((rd_T68 x0_1 x5_1).f0), .int .i64 ((rd_T68 x0_1 x5_1).f1), .int .i64 ((rd_T68 x0_1 x5_1).f2), .string ((rd_T68 x0_1 x5_1).f3)], .agg #[.string ((rd_T68 x0_1 (ji7)).f0), .int .i64 ((rd_T68 x0_1 (ji7)).f1), .int .i64 ((rd_T68 x0_1 (ji7)).f2), .string ((rd_T68 x0_1 (ji7)).f3)]] (by rfl) rfl rfl rfl (by (try simp only [List.map_toArray, List.map_cons, List.map_nil]); first | done | (simp only [hji7]; rfl) | rfl | (simp only [List.length_drop, List.length_take]; rfl)) ?_
            with_reducible refine (zone_Sort_1.calls k1 ((rd_T68 x0_1 x5_1).f0) ((rd_T68 x0_1 x5_1).f1) ((rd_T68 x0_1 x5_1).f2) ((rd_T68 x0_1 x5_1).f3) ((rd_T68 x0_1 (ji7)).f0) ((rd_T68 x0_1 (ji7)).f1) ((rd_T68 x0_1 (ji7)).f2) ((rd_T68 x0_1 (ji7)).f3) true _ A10.out).mono ?_
            rintro e w15 ⟨rfl, hb⟩
            have HS0_ := (hb.cell (World.block_lt_of_cell? _ _ (hHeld.1))).trans (hHeld.1)
            have HS1_ := (hb.cell (World.block_lt_of_cell? _ _ (hHeld.2.1))).trans (hHeld.2.1)
            have HS2_ := (hb.cell (World.block_lt_of_cell? _ _ (hHeld.2.2.1))).trans (hHeld.2.2.1)
            have HS3_ := (hb.cell (World.block_lt_of_cell? _ _ (hHeld.2.2.2.1))).trans (hHeld.2.2.2.1)
            have HS4_ := (hb.cell (World.block_lt_of_cell? _ _ (hHeld.2.2.2.2.1))).trans (hHeld.2.2.2.2.1)
            have HS5_ := (hb.cell (World.block_lt_of_cell? _ _ (hHeld.2.2.2.2.2.1))).trans (hHeld.2.2.2.2.2.1)
            have HS6_ := (hb.cell (World.block_lt_of_cell? _ _ (hHeld.2.2.2.2.2.2.1))).trans (hHeld.2.2.2.2.2.2.1)
            have HS7_ := (hb.cell (World.block_lt_of_cell? _ _ (hHeld.2.2.2.2.2.2.2))).trans (hHeld.2.2.2.2.2.2.2)
            refine ⟨_, rfl, ?_⟩
            have n0_ := Aside0.mk (Kd.R_below (by (with_reducible repeat (first | apply Kd.R_alloc | apply Kd.R_drewN | apply Kd.R_drew)); exact HO_0.out) hb)
            have n1_ := Aside0.mk (Kept.below (S := (fun k_ => P0_ k_)) (by repeat (first | (with_reducible first | exact HK.out | apply Kept.alloc | apply Kept.drewN | apply Kept.drew) | exact HK.out)) hb)
            have n2_ := Aside0.mk (below_step (by repeat (first | (with_reducible first | exact HB.out | apply below_alloc | apply pw_below_drewN | apply below_drew1) | exact HB.out)) hb)
            clear HO_0; clear HK; clear HB; have HO_0 := n0_; have HK := n1_; have HB := n2_; clear n0_ n1_ n2_; (try clear hb); (try clear hb2); (try clear hk); (try clear hi)
            refine hK.out _ _ ⟨HS0_, HS1_, HS2_, HS3_, HS4_, HS5_, HS6_, HS7_⟩ (fun hHeld => ?_)
            clear hK K
            refine norm_ (a' := ?_) ?_ ?_; rotate_left; (· show Act.put _ (some 28) _ = _; simp only [Act.put, sA, sB, sC, i64_w, i32_w]; rfl)
            refine done_ (done_of HT_.out (by kernel_rfl)) ?_
            have q16 : (x5_1 : Int) ≤ ((x0_1.length : Int) : Int) := of_decide_eq_true (by first | (with_reducible assumption) | assumption)
            obtain ⟨i016, hi016, _, hsz16, _⟩ := info_parts info68
            have hroom16 : x0_1.length ≤ co4 := (Kd.R_reads' HO_0.out).2.1
            have hC16 : Kd.C k68 _ (some ad213) x0_1.length x0_1 := (Kd.R_reads' HO_0.out).2.2
            have q016 : (0 : Int) ≤ (x5_1 : Int) := of_decide_eq_true (by first | (with_reducible assumption) | assumption)
            have hcut16 := cut_from (P := Tryd.prog) 50 68 .i64 Tryd.underlying50 hi016 4 hsz16 (some ad213) x0_1.length co4 x5_1 q016 q16
            have hr16 := Kd.C_drop (m := (x5_1 : Int).toNat) (c := co4) hC16 (by omega) hroom16
            obtain ⟨A16, hA16⟩ : ∃ A1, A1 = (if co4 = (x5_1 : Int).toNat then (some ad213) else ((some ad213) : Option Addr).map (·.add ((x5_1 : Int).toNat * 4))) := ⟨_, rfl⟩
            obtain ⟨c16, hc16⟩ : ∃ c1, c1 = co4 - (x5_1 : Int).toNat := ⟨_, rfl⟩
            have hy16 : y216.length = x0_1.length - (x5_1 : Int).toNat := (by rw [Ny216.out, List.length_drop] <;> omega)
            rw [show (x0_1).drop (x5_1 : Int).toNat = y216 from Ny216.out.symm] at hr16
            replace hr16 : Kd.C k68 _ A16 y216.length y216 := (by rw [hA16]; exact hr16)
            rw [← hy16, ← hA16, ← hc16] at hcut16
            have HR219 := Aside0.mk hr16
            have HC219 := Aside0.mk (show y216.length ≤ c16 from by rw [hy16, hc16]; exact Nat.sub_le_sub_right hroom16 _)
            clear hr16 hC16 hroom16 hi016 hsz16 hc16; have KY16 := Aside0.mk hy16; have KA16 := Aside0.mk hA16; clear hy16 hA16
            have KL16 := Aside0.mk (show (x5_1 : Int).toNat ≤ x0_1.length from by omega)
            replace q16 := eq_true q16; (try go_wp2)
            (try simp only [Act.put, sA, sB, sC])
            (try generalize (ad213.add ((x5_1).toNat * 4)) = pa1_)
            (try generalize (ad213.add ((ji7).toNat * 4)) = pa2_)
            go_loopg [5, 7] k1 (fun kq v5 v7 w' => ∃ (x0_2 : List (S68)) (x5_2 : Int) (x7_2 : Int), v5 = .int .i64 x5_2 ∧ v7 = .int .i64 x7_2 ∧ Aside0 (api_ZoneRecord_65.l1 kq x0_2 x5_2 x5_1 x7_2 = some r) ∧ Aside0 (kq ≤ k1) ∧ Aside0 (Kd.R k68 68 w' w0.heap.size (fun k_ => (P0_ k_ ∨ w.heap.size ≤ k_)) (.slice (some ad213) x0_1.length co4) x0_2) ∧ Aside0 (Kept w w' (fun k_ => P0_ k_)) ∧ Aside0 (Below w0.heap.size w0 w'))
            case atStart => exact ⟨(x0_1), (x5_1), (1), (by first | rfl | (simp; done) | (simp [*]; done)), (by first | rfl | (simp; done) | (simp [*]; done)), H', ⟨Nat.le_refl _⟩, ⟨by (try simp only [hl0_1]); (with_reducible repeat (first | apply Kd.R_alloc | apply Kd.R_drewN | apply Kd.R_drew)); exact HO_0.out⟩, ⟨by repeat (first | (with_reducible first | exact HK.out | apply Kept.alloc | apply Kept.drewN | apply Kept.drew) | exact HK.out)⟩, ⟨by repeat (first | (with_reducible first | exact HB.out | apply below_alloc | apply pw_below_drewN | apply below_drew1) | exact HB.out)⟩⟩
            case round =>
              clear H'
              (try clear c1); (try clear q1); (try clear c2); (try clear c2b0); (try clear c2b1); (try clear p2); (try clear q2); (try clear hx2); (try clear c5); (try clear c5b0); (try clear c6); (try clear c6b0); (try clear p6); (try clear c8); (try clear c8b0); (try clear c9); (try clear c9b0); (try clear c11); (try clear c12); (try clear c12b0); (try clear c13); (try clear c13b0); (try clear c13b1); (try clear c16); (try clear q16); (try clear hji7); (try clear hji7w); (try clear hx213_0); (try clear hx213_1); (try clear hx213_2); (try clear hx213_3); (try clear hx214_0); (try clear hx214_1); (try clear hx214_2); (try clear hx214_3); (try clear p2); (try clear p213); (try clear p214); (try clear q016); (try clear q16); (try clear q213); (try clear q214)
              obtain ⟨x0_2, x5_2, x7_2, rfl, rfl, HA, HK2, HO_0, HK, HB⟩ := hrel
              have hl0_2 := (Kd.R_reads' HO_0.out).1
              rw [hl0_2] at HO_0
              (try simp only [hl0_2])
              cases gk with
              | zero => exact absurd HA.out (by simp [api_ZoneRecord_65.l1])
              | succ k2 =>
                have H := HA.out; clear HA
                simp only [api_ZoneRecord_65.l1] at H
                obtain ⟨yy, hyy⟩ : ∃ y_ : List (S68), y_ = (x0_2.drop (x5_1 : Int).toNat) := ⟨_, rfl⟩
                have hyl : yy.length = y216.length := by rw [hyy, List.length_drop, KY16.out, hl0_2]
                simp only [← hyy, hyl] at H
                have Hyy := Aside0.mk hyy; clear hyy
                by_cases c17 : x7_2 < (y216.length : Int)
                · rw [if_pos c17] at H
                  have c17b0 : decide (x7_2 < (y216.length : Int)) = true := decide_eq_true c17
                  clear c17
                  by_cases c18 : 0 ≤ x7_2
                  rotate_left
                  · rw [if_neg c18] at H; exact absurd H (by simp)
                  rw [if_pos c18] at H
                  have c18b0 : decide (0 ≤ x7_2) = true := decide_eq_true c18
                  clear c18
                  obtain ⟨ji19, hji19⟩ : ∃ j_ : Int, (wrap64 (x7_2 - 1)) = j_ := ⟨_, rfl⟩
                  replace H : (if 0 ≤ (ji19) then (if (ji19) < (y216.length : Int) then ((zone_Sort_1.f k2 ((rd_T68 yy x7_2).f0) ((rd_T68 yy x7_2).f1) ((rd_T68 yy x7_2).f2) ((rd_T68 yy x7_2).f3) ((rd_T68 yy (ji19)).f0) ((rd_T68 yy (ji19)).f1) ((rd_T68 yy (ji19)).f2) ((rd_T68 yy (ji19)).f3)).bind fun t222 => (if t222 = true then (api_ZoneRecord_65.l1 k2 x0_2 x5_2 x5_1 (wrap64 (x7_2 + 1))) else (if 0 ≤ x5_2 then (if x5_2 < (x0_2.length : Int) then (api_ZoneRecord_65.l1 k2 (x0_2.set (x5_2 : Int).toNat (⟨(rd_T68 yy x7_2).f0, (rd_T68 yy x7_2).f1, (rd_T68 yy x7_2).f2, (rd_T68 yy x7_2).f3⟩ : S68)) (wrap64 (x5_2 + 1)) x5_1 (wrap64 (x7_2 + 1))) else (none)) else (none)))) else (none)) else (none)) = some r := by first | (rw [hji19] at H; exact H) | (simp only [hji19] at H ⊢; exact H)
                  have hji19w : (IntKind.i64.wrap (x7_2 - 1)) = ji19 := (i64_w _).trans hji19
                  by_cases c20 : 0 ≤ (ji19)
                  rotate_left
                  · rw [if_neg c20] at H; exact absurd H (by simp)
                  rw [if_pos c20] at H
                  have c20b0 : decide (0 ≤ (ji19)) = true := decide_eq_true c20
                  clear c20
                  by_cases c21 : (ji19) < (y216.length : Int)
                  rotate_left
                  · rw [if_neg c21] at H; exact absurd H (by simp)
                  rw [if_pos c21] at H
                  have c21b0 : decide ((ji19) < (y216.length : Int)) = true := decide_eq_true c21
                  clear c21; replace H := Option.bind_eq_some_iff.mp H
                  obtain ⟨t222, A220, H⟩ := H
                  replace H : (if t222 = true then (api_ZoneRecord_65.l1 k2 x0_2 x5_2 x5_1 (wrap64 (x7_2 + 1))) else (if 0 ≤ x5_2 then (if x5_2 < (x0_2.length : Int) then (api_ZoneRecord_65.l1 k2 (x0_2.set (x5_2 : Int).toNat (⟨(rd_T68 yy x7_2).f0, (rd_T68 yy x7_2).f1, (rd_T68 yy x7_2).f2, (rd_T68 yy x7_2).f3⟩ : S68)) (wrap64 (x5_2 + 1)) x5_1 (wrap64 (x7_2 + 1))) else (none)) else (none))) = some r := H
                  have A22 := Aside0.mk A220; clear A220
                  (try have EA22_A22 := Option.some.inj (A22.out.symm.trans A22.out))
                  by_cases c23 : t222 = true
                  · subst c23
                    have H1 : (api_ZoneRecord_65.l1 k2 x0_2 x5_2 x5_1 (wrap64 (x7_2 + 1))) = some r := by rw [if_pos rfl] at H; exact H
                    clear H; have H := H1; clear H1
                    have H' := Aside0.mk H
                    clear H; (try go_wp2); have n0_ := Aside0.mk (Kd.R_drew HO_0.out); have n1_ := Aside0.mk (Kept.drew HK.out); have n2_ := Aside0.mk (below_drew1 HB.out); clear HO_0; clear HK; clear HB; have HO_0 := n0_; have HK := n1_; have HB := n2_; clear n0_ n1_ n2_
                    have p220 : 0 ≤ (x7_2 : Int) := of_decide_eq_true (by first | (with_reducible assumption) | assumption)
                    have q220 : x7_2 < (y216.length : Int) := of_decide_eq_true (by first | (with_reducible assumption) | assumption)
                    have HRn := Aside0.mk (show Kd.C k68 _ A16 yy.length yy from by rw [show A16 = _ from KA16.out, Hyy.out]; exact cut_reads HO_0.out (by rw [← hl0_2]; exact KL16.out))
                    obtain ⟨ad220, e220, hx220_0, hx220_1, hx220_2, hx220_3⟩ := at_T68 HRn.out x7_2 p220 (by rw [hyl]; exact q220)
                    have hw220_3 := hx220_3; have hw220_2 := hx220_2; have hw220_1 := hx220_1; have hw220_0 := hx220_0; cases e220; replace p220 := eq_true p220; replace q220 := eq_true q220
                    have p221 : 0 ≤ ((ji19) : Int) := of_decide_eq_true (by first | (with_reducible assumption) | assumption)
                    have q221 : (ji19) < (y216.length : Int) := of_decide_eq_true (by first | (with_reducible assumption) | assumption)
                    obtain ⟨ad221, e221, hx221_0, hx221_1, hx221_2, hx221_3⟩ := at_T68 HRn.out (ji19) p221 (by rw [hyl]; exact q221)
                    clear HRn; have hw221_3 := hx221_3; have hw221_2 := hx221_2; have hw221_1 := hx221_1; have hw221_0 := hx221_0
                    obtain rfl : ad220 = ad221 := (by injection e221)
                    replace p221 := eq_true p221; replace q221 := eq_true q221
                    refine start_ (n := 12) (S := fun w' => w'.cell? (ad220.add ((x7_2).toNat * 4)) = some (.string ((rd_T68 yy x7_2).f0)) ∧ w'.cell? ⟨(ad220.add ((x7_2).toNat * 4)).block, (ad220.add ((x7_2).toNat * 4)).off + 1, none⟩ = some (.int .i64 ((rd_T68 yy x7_2).f1)) ∧ w'.cell? ⟨(ad220.add ((x7_2).toNat * 4)).block, (ad220.add ((x7_2).toNat * 4)).off + 2, none⟩ = some (.int .i64 ((rd_T68 yy x7_2).f2)) ∧ w'.cell? ⟨(ad220.add ((x7_2).toNat * 4)).block, (ad220.add ((x7_2).toNat * 4)).off + 3, none⟩ = some (.string ((rd_T68 yy x7_2).f3)) ∧ w'.cell? (ad220.add (((ji19)).toNat * 4)) = some (.string ((rd_T68 yy (ji19)).f0)) ∧ w'.cell? ⟨(ad220.add (((ji19)).toNat * 4)).block, (ad220.add (((ji19)).toNat * 4)).off + 1, none⟩ = some (.int .i64 ((rd_T68 yy (ji19)).f1)) ∧ w'.cell? ⟨(ad220.add (((ji19)).toNat * 4)).block, (ad220.add (((ji19)).toNat * 4)).off + 2, none⟩ = some (.int .i64 ((rd_T68 yy (ji19)).f2)) ∧ w'.cell? ⟨(ad220.add (((ji19)).toNat * 4)).block, (ad220.add (((ji19)).toNat * 4)).off + 3, none⟩ = some (.string ((rd_T68 yy (ji19)).f3))) (ds := []) #[ff, ff, ff, ff, ff, ff, ff, ff, ff, ff, ff, ff] (by kernel_rfl) rfl rfl ⟨hx220_0, hx220_1, hx220_2, hx220_3, hx221_0, hx221_1, hx221_2, hx221_3⟩ (fun hHeld => ?_); refine with_tabW api_ZoneRecord_65.tab11 api_ZoneRecord_65.bits11 (fun HT_ HW_ => ?_)
                    generalize wr.drew = w24 at HO_0 HK HB hx220_0 hx220_1 hx220_2 hx220_3 hx221_0 hx221_1 hx221_2 hx221_3 hHeld ⊢
                    refine pure_ (i := 0) (N := some 38) (v := ?_) (a' := ?_) #[tt, ff, ff, ff, ff, ff, ff, ff, ff, ff, ff, ff] rfl rfl (any_of HT_.out (by kernel_rfl)) (fun _ _ _ h => h) (Or.inl ⟨by rfl, ?_⟩) ?_ ?_; rotate_left; (· intro w'; go_simp; with_reducible rfl); rotate_left; (· simp only [Act.put, sA, sB, sC, i64_w, i32_w]; rfl)
                    refine pure_ (i := 1) (N := some 39) (v := ?_) (a' := ?_) #[tt, tt, ff, ff, ff, ff, ff, ff, ff, ff, ff, ff] rfl rfl (any_of HT_.out (by kernel_rfl)) (fun _ _ _ h => h) (Or.inl ⟨by rfl, ?_⟩) ?_ ?_; rotate_left; (· intro w'; go_simp; with_reducible rfl); rotate_left; (· simp only [Act.put, sA, sB, sC, i64_w, i32_w]; rfl)
                    refine pure_ (i := 2) (N := some 40) (v := ?_) (a' := ?_) #[tt, tt, tt, ff, ff, ff, ff, ff, ff, ff, ff, ff] rfl rfl (any_of HT_.out (by kernel_rfl)) (fun _ _ _ h => h) (Or.inl ⟨by rfl, ?_⟩) ?_ ?_; rotate_left; (· intro w'; go_simp; with_reducible rfl); rotate_left; (· simp only [Act.put, sA, sB, sC, i64_w, i32_w]; rfl)
                    refine pure_ (i := 3) (N := some 41) (v := ?_) (a' := ?_) #[tt, tt, tt, tt, ff, ff, ff, ff, ff, ff, ff, ff] rfl rfl (any_of HT_.out (by kernel_rfl)) (fun _ _ _ h => h) (Or.inl ⟨by rfl, ?_⟩) ?_ ?_; rotate_left; (· intro w'; go_simp; with_reducible rfl); rotate_left; (· simp only [Act.put, sA, sB, sC, i64_w, i32_w]; rfl)
                    refine pure_ (i := 5) (N := some 43) (v := ?_) (a' := ?_) #[tt, tt, tt, tt, ff, tt, ff, ff, ff, ff, ff, ff] rfl rfl (any_of HT_.out (by kernel_rfl)) (fun _ _ _ h => h) (Or.inl ⟨by rfl, ?_⟩) ?_ ?_; rotate_left; (· intro w'; go_simp; with_reducible rfl); rotate_left; (· simp only [Act.put, sA, sB, sC, i64_w, i32_w]; rfl)
                    refine pure_ (i := 6) (N := some 44) (v := ?_) (a' := ?_) #[tt, tt, tt, tt, ff, tt, tt, ff, ff, ff, ff, ff] rfl rfl (any_of HT_.out (by kernel_rfl)) (fun _ _ _ h => h) (Or.inl ⟨by rfl, ?_⟩) ?_ ?_; rotate_left; (· intro w'; go_simp; with_reducible rfl); rotate_left; (· simp only [Act.put, sA, sB, sC, i64_w, i32_w]; rfl)
                    refine pure_ (i := 7) (N := some 45) (v := ?_) (a' := ?_) #[tt, tt, tt, tt, ff, tt, tt, tt, ff, ff, ff, ff] rfl rfl (any_of HT_.out (by kernel_rfl)) (fun _ _ _ h => h) (Or.inl ⟨by rfl, ?_⟩) ?_ ?_; rotate_left; (· intro w'; go_simp; with_reducible rfl); rotate_left; (· simp only [Act.put, sA, sB, sC, i64_w, i32_w]; rfl)
                    refine pure_ (i := 8) (N := some 46) (v := ?_) (a' := ?_) #[tt, tt, tt, tt, ff, tt, tt, tt, tt, ff, ff, ff] rfl rfl (any_of HT_.out (by kernel_rfl)) (fun _ _ _ h => h) (Or.inl ⟨by rfl, ?_⟩) ?_ ?_; rotate_left; (· intro w'; go_simp; with_reducible rfl); rotate_left; (· simp only [Act.put, sA, sB, sC, i64_w, i32_w]; rfl)
                    refine take_ (i := 4) (N := some 42) (v := ?_) (a' := ?_) #[tt, tt, tt, tt, tt, tt, tt, tt, tt, ff, ff, ff] rfl rfl (take_ofW HT_.out HW_.out (by kernel_rfl)) (fun _ _ _ h => h) (Or.inl ⟨by rfl, ?_⟩) hHeld ?_ ?_; rotate_left; (· rintro w' ⟨s0, s1, s2, s3, s4, s5, s6, s7⟩; go_simp; with_reducible rfl); rotate_left; (· simp only [Act.put, sA, sB, sC, i64_w, i32_w]; rfl)
                    refine take_ (i := 9) (N := some 47) (v := ?_) (a' := ?_) #[tt, tt, tt, tt, tt, tt, tt, tt, tt, tt, ff, ff] rfl rfl (take_ofW HT_.out HW_.out (by kernel_rfl)) (fun _ _ _ h => h) (Or.inl ⟨by rfl, ?_⟩) hHeld ?_ ?_; rotate_left; (· rintro w' ⟨s0, s1, s2, s3, s4, s5, s6, s7⟩; go_simp; with_reducible rfl); rotate_left; (· simp only [Act.put, sA, sB, sC, i64_w, i32_w]; rfl)
                    refine one_ (i := 10) (N := some 48) #[tt, tt, tt, tt, tt, tt, tt, tt, tt, tt, tt, ff] rfl rfl (one_of HT_.out (by kernel_rfl)) (by decide) (fun K hK => ?_)
                    refine goesV_ Tryd.func66 (by kernel_rfl) rfl #[.agg #[.string ((rd_T68 yy x7_2).f0), .int .i64 ((rd_T68 yy x7_2).f1), .int .i64 ((rd_T68 yy x7_2).f2), .string ((rd_T68 yy x7_2).f3)], .agg #[.string ((rd_T68 yy (ji19)).f0), .int .i64 ((rd_T68 yy (ji19)).f1), .int .i64 ((rd_T68 yy (ji19)).f2), .string ((rd_T68 yy (ji19)).f3)]] (by rfl) rfl rfl rfl (by (try simp only [List.map_toArray, List.map_cons, List.map_nil]); first | done | (simp only [hji19]; rfl) | rfl | (simp only [List.length_drop, List.length_take]; rfl)) ?_
                    with_reducible refine (zone_Sort_1.calls k2 ((rd_T68 yy x7_2).f0) ((rd_T68 yy x7_2).f1) ((rd_T68 yy x7_2).f2) ((rd_T68 yy x7_2).f3) ((rd_T68 yy (ji19)).f0) ((rd_T68 yy (ji19)).f1) ((rd_T68 yy (ji19)).f2) ((rd_T68 yy (ji19)).f3) true _ A22.out).mono ?_
                    rintro e w25 ⟨rfl, hb⟩
                    have HS0_ := (hb.cell (World.block_lt_of_cell? _ _ (hHeld.1))).trans (hHeld.1)
                    have HS1_ := (hb.cell (World.block_lt_of_cell? _ _ (hHeld.2.1))).trans (hHeld.2.1)
                    have HS2_ := (hb.cell (World.block_lt_of_cell? _ _ (hHeld.2.2.1))).trans (hHeld.2.2.1)
                    have HS3_ := (hb.cell (World.block_lt_of_cell? _ _ (hHeld.2.2.2.1))).trans (hHeld.2.2.2.1)
                    have HS4_ := (hb.cell (World.block_lt_of_cell? _ _ (hHeld.2.2.2.2.1))).trans (hHeld.2.2.2.2.1)
                    have HS5_ := (hb.cell (World.block_lt_of_cell? _ _ (hHeld.2.2.2.2.2.1))).trans (hHeld.2.2.2.2.2.1)
                    have HS6_ := (hb.cell (World.block_lt_of_cell? _ _ (hHeld.2.2.2.2.2.2.1))).trans (hHeld.2.2.2.2.2.2.1)
                    have HS7_ := (hb.cell (World.block_lt_of_cell? _ _ (hHeld.2.2.2.2.2.2.2))).trans (hHeld.2.2.2.2.2.2.2)
                    refine ⟨_, rfl, ?_⟩
                    have n0_ := Aside0.mk (Kd.R_below (by (with_reducible repeat (first | apply Kd.R_alloc | apply Kd.R_drewN | apply Kd.R_drew)); exact HO_0.out) hb)
                    have n1_ := Aside0.mk (Kept.below (S := (fun k_ => P0_ k_)) (by repeat (first | (with_reducible first | exact HK.out | apply Kept.alloc | apply Kept.drewN | apply Kept.drew) | exact HK.out)) hb)
                    have n2_ := Aside0.mk (below_step (by repeat (first | (with_reducible first | exact HB.out | apply below_alloc | apply pw_below_drewN | apply below_drew1) | exact HB.out)) hb)
                    clear HO_0; clear HK; clear HB; have HO_0 := n0_; have HK := n1_; have HB := n2_; clear n0_ n1_ n2_; (try clear hb); (try clear hb2); (try clear hk); (try clear hi)
                    refine hK.out _ _ ⟨HS0_, HS1_, HS2_, HS3_, HS4_, HS5_, HS6_, HS7_⟩ (fun hHeld => ?_)
                    clear hK K
                    refine norm_ (a' := ?_) ?_ ?_; rotate_left; (· show Act.put _ (some 48) _ = _; simp only [Act.put, sA, sB, sC, i64_w, i32_w]; rfl)
                    refine pure_ (i := 11) (N := some 49) (v := ?_) (a' := ?_) #[tt, tt, tt, tt, tt, tt, tt, tt, tt, tt, tt, tt] rfl rfl (any_of HT_.out (by kernel_rfl)) (fun _ _ _ h => h) (Or.inl ⟨by rfl, ?_⟩) ?_ ?_; rotate_left; (· intro w'; go_simp; with_reducible rfl); rotate_left; (· simp only [Act.put, sA, sB, sC, i64_w, i32_w]; rfl)
                    refine done_ (done_of HT_.out (by kernel_rfl)) ?_
                    (try go_wp2)
                    (try simp only [← hl0_2])
                    go_roundg k2
                    case measure => have := HK1.out; have := HK2.out; omega
                    case rel => exact ⟨(x0_2), (x5_2), (wrap64 (x7_2 + 1)), (by first | rfl | (simp; done) | (simp [*]; done)), (by first | rfl | (simp; done) | (simp [*]; done)), H', ⟨by have := HK1.out; have := HK2.out; omega⟩, ⟨by (try simp only [hl0_1]); (try simp only [hl0_2]); (with_reducible repeat (first | apply Kd.R_alloc | apply Kd.R_drewN | apply Kd.R_drew)); exact HO_0.out⟩, ⟨by repeat (first | (with_reducible first | exact HK.out | apply Kept.alloc | apply Kept.drewN | apply Kept.drew) | exact HK.out)⟩, ⟨by repeat (first | (with_reducible first | exact HB.out | apply below_alloc | apply pw_below_drewN | apply below_drew1) | exact HB.out)⟩⟩
                  · replace c23 := Bool.eq_false_iff.mpr c23
                    subst c23
                    have H1 : (if 0 ≤ x5_2 then (if x5_2 < (x0_2.length : Int) then (api_ZoneRecord_65.l1 k2 (x0_2.set (x5_2 : Int).toNat (⟨(rd_T68 yy x7_2).f0, (rd_T68 yy x7_2).f1, (rd_T68 yy x7_2).f2, (rd_T68 yy x7_2).f3⟩ : S68)) (wrap64 (x5_2 + 1)) x5_1 (wrap64 (x7_2 + 1))) else (none)) else (none)) = some r := by rw [if_neg (show ¬ (false = true) by decide)] at H; exact H
                    clear H; have H := H1; clear H1
                    by_cases c26 : 0 ≤ x5_2
                    rotate_left
                    · rw [if_neg c26] at H; exact absurd H (by simp)
                    rw [if_pos c26] at H
                    have c26b0 : decide (0 ≤ x5_2) = true := decide_eq_true c26
                    clear c26
                    by_cases c27 : x5_2 < (x0_2.length : Int)
                    rotate_left
                    · rw [if_neg c27] at H; exact absurd H (by simp)
                    rw [if_pos c27] at H
                    have c27b0 : decide (x5_2 < (x0_2.length : Int)) = true := decide_eq_true c27
                    clear c27
                    obtain ⟨y224, hy224⟩ : ∃ y_ : List (S68), y_ = (x0_2.set (x5_2 : Int).toNat (⟨(rd_T68 yy x7_2).f0, (rd_T68 yy x7_2).f1, (rd_T68 yy x7_2).f2, (rd_T68 yy x7_2).f3⟩ : S68)) := ⟨_, rfl⟩
                    replace H : (api_ZoneRecord_65.l1 k2 y224 (wrap64 (x5_2 + 1)) x5_1 (wrap64 (x7_2 + 1))) = some r := by first | (rw [hy224]; with_reducible exact H) | (have H2_ := (Option.bind_some _ _).symm.trans H; rw [hy224]; with_reducible exact H2_) | (have H2_ := (Option.bind_some _ _).symm.trans H; with_reducible exact H2_) | with_reducible exact H | (rw [hy224]; exact H) | exact H
                    have Ny224 := Aside0.mk hy224; clear hy224
                    have H' := Aside0.mk H
                    clear H; (try go_wp2); have n0_ := Aside0.mk (Kd.R_drew HO_0.out); have n1_ := Aside0.mk (Kept.drew HK.out); have n2_ := Aside0.mk (below_drew1 HB.out); clear HO_0; clear HK; clear HB; have HO_0 := n0_; have HK := n1_; have HB := n2_; clear n0_ n1_ n2_
                    have p220 : 0 ≤ (x7_2 : Int) := of_decide_eq_true (by first | (with_reducible assumption) | assumption)
                    have q220 : x7_2 < (y216.length : Int) := of_decide_eq_true (by first | (with_reducible assumption) | assumption)
                    have HRn := Aside0.mk (show Kd.C k68 _ A16 yy.length yy from by rw [show A16 = _ from KA16.out, Hyy.out]; exact cut_reads HO_0.out (by rw [← hl0_2]; exact KL16.out))
                    obtain ⟨ad220, e220, hx220_0, hx220_1, hx220_2, hx220_3⟩ := at_T68 HRn.out x7_2 p220 (by rw [hyl]; exact q220)
                    have hw220_3 := hx220_3; have hw220_2 := hx220_2; have hw220_1 := hx220_1; have hw220_0 := hx220_0; cases e220; replace p220 := eq_true p220; replace q220 := eq_true q220
                    have p221 : 0 ≤ ((ji19) : Int) := of_decide_eq_true (by first | (with_reducible assumption) | assumption)
                    have q221 : (ji19) < (y216.length : Int) := of_decide_eq_true (by first | (with_reducible assumption) | assumption)
                    obtain ⟨ad221, e221, hx221_0, hx221_1, hx221_2, hx221_3⟩ := at_T68 HRn.out (ji19) p221 (by rw [hyl]; exact q221)
                    clear HRn; have hw221_3 := hx221_3; have hw221_2 := hx221_2; have hw221_1 := hx221_1; have hw221_0 := hx221_0
                    obtain rfl : ad220 = ad221 := (by injection e221)
                    replace p221 := eq_true p221; replace q221 := eq_true q221
                    refine start_ (n := 12) (S := fun w' => w'.cell? (ad220.add ((x7_2).toNat * 4)) = some (.string ((rd_T68 yy x7_2).f0)) ∧ w'.cell? ⟨(ad220.add ((x7_2).toNat * 4)).block, (ad220.add ((x7_2).toNat * 4)).off + 1, none⟩ = some (.int .i64 ((rd_T68 yy x7_2).f1)) ∧ w'.cell? ⟨(ad220.add ((x7_2).toNat * 4)).block, (ad220.add ((x7_2).toNat * 4)).off + 2, none⟩ = some (.int .i64 ((rd_T68 yy x7_2).f2)) ∧ w'.cell? ⟨(ad220.add ((x7_2).toNat * 4)).block, (ad220.add ((x7_2).toNat * 4)).off + 3, none⟩ = some (.string ((rd_T68 yy x7_2).f3)) ∧ w'.cell? (ad220.add (((ji19)).toNat * 4)) = some (.string ((rd_T68 yy (ji19)).f0)) ∧ w'.cell? ⟨(ad220.add (((ji19)).toNat * 4)).block, (ad220.add (((ji19)).toNat * 4)).off + 1, none⟩ = some (.int .i64 ((rd_T68 yy (ji19)).f1)) ∧ w'.cell? ⟨(ad220.add (((ji19)).toNat * 4)).block, (ad220.add (((ji19)).toNat * 4)).off + 2, none⟩ = some (.int .i64 ((rd_T68 yy (ji19)).f2)) ∧ w'.cell? ⟨(ad220.add (((ji19)).toNat * 4)).block, (ad220.add (((ji19)).toNat * 4)).off + 3, none⟩ = some (.string ((rd_T68 yy (ji19)).f3))) (ds := []) #[ff, ff, ff, ff, ff, ff, ff, ff, ff, ff, ff, ff] (by kernel_rfl) rfl rfl ⟨hx220_0, hx220_1, hx220_2, hx220_3, hx221_0, hx221_1, hx221_2, hx221_3⟩ (fun hHeld => ?_); refine with_tabW api_ZoneRecord_65.tab11 api_ZoneRecord_65.bits11 (fun HT_ HW_ => ?_)
                    generalize wr.drew = w29 at HO_0 HK HB hx220_0 hx220_1 hx220_2 hx220_3 hx221_0 hx221_1 hx221_2 hx221_3 hHeld ⊢
                    refine pure_ (i := 0) (N := some 38) (v := ?_) (a' := ?_) #[tt, ff, ff, ff, ff, ff, ff, ff, ff, ff, ff, ff] rfl rfl (any_of HT_.out (by kernel_rfl)) (fun _ _ _ h => h) (Or.inl ⟨by rfl, ?_⟩) ?_ ?_; rotate_left; (· intro w'; go_simp; with_reducible rfl); rotate_left; (· simp only [Act.put, sA, sB, sC, i64_w, i32_w]; rfl)
                    refine pure_ (i := 1) (N := some 39) (v := ?_) (a' := ?_) #[tt, tt, ff, ff, ff, ff, ff, ff, ff, ff, ff, ff] rfl rfl (any_of HT_.out (by kernel_rfl)) (fun _ _ _ h => h) (Or.inl ⟨by rfl, ?_⟩) ?_ ?_; rotate_left; (· intro w'; go_simp; with_reducible rfl); rotate_left; (· simp only [Act.put, sA, sB, sC, i64_w, i32_w]; rfl)
                    refine pure_ (i := 2) (N := some 40) (v := ?_) (a' := ?_) #[tt, tt, tt, ff, ff, ff, ff, ff, ff, ff, ff, ff] rfl rfl (any_of HT_.out (by kernel_rfl)) (fun _ _ _ h => h) (Or.inl ⟨by rfl, ?_⟩) ?_ ?_; rotate_left; (· intro w'; go_simp; with_reducible rfl); rotate_left; (· simp only [Act.put, sA, sB, sC, i64_w, i32_w]; rfl)
                    refine pure_ (i := 3) (N := some 41) (v := ?_) (a' := ?_) #[tt, tt, tt, tt, ff, ff, ff, ff, ff, ff, ff, ff] rfl rfl (any_of HT_.out (by kernel_rfl)) (fun _ _ _ h => h) (Or.inl ⟨by rfl, ?_⟩) ?_ ?_; rotate_left; (· intro w'; go_simp; with_reducible rfl); rotate_left; (· simp only [Act.put, sA, sB, sC, i64_w, i32_w]; rfl)
                    refine pure_ (i := 5) (N := some 43) (v := ?_) (a' := ?_) #[tt, tt, tt, tt, ff, tt, ff, ff, ff, ff, ff, ff] rfl rfl (any_of HT_.out (by kernel_rfl)) (fun _ _ _ h => h) (Or.inl ⟨by rfl, ?_⟩) ?_ ?_; rotate_left; (· intro w'; go_simp; with_reducible rfl); rotate_left; (· simp only [Act.put, sA, sB, sC, i64_w, i32_w]; rfl)
                    refine pure_ (i := 6) (N := some 44) (v := ?_) (a' := ?_) #[tt, tt, tt, tt, ff, tt, tt, ff, ff, ff, ff, ff] rfl rfl (any_of HT_.out (by kernel_rfl)) (fun _ _ _ h => h) (Or.inl ⟨by rfl, ?_⟩) ?_ ?_; rotate_left; (· intro w'; go_simp; with_reducible rfl); rotate_left; (· simp only [Act.put, sA, sB, sC, i64_w, i32_w]; rfl)
                    refine pure_ (i := 7) (N := some 45) (v := ?_) (a' := ?_) #[tt, tt, tt, tt, ff, tt, tt, tt, ff, ff, ff, ff] rfl rfl (any_of HT_.out (by kernel_rfl)) (fun _ _ _ h => h) (Or.inl ⟨by rfl, ?_⟩) ?_ ?_; rotate_left; (· intro w'; go_simp; with_reducible rfl); rotate_left; (· simp only [Act.put, sA, sB, sC, i64_w, i32_w]; rfl)
                    refine pure_ (i := 8) (N := some 46) (v := ?_) (a' := ?_) #[tt, tt, tt, tt, ff, tt, tt, tt, tt, ff, ff, ff] rfl rfl (any_of HT_.out (by kernel_rfl)) (fun _ _ _ h => h) (Or.inl ⟨by rfl, ?_⟩) ?_ ?_; rotate_left; (· intro w'; go_simp; with_reducible rfl); rotate_left; (· simp only [Act.put, sA, sB, sC, i64_w, i32_w]; rfl)
                    refine take_ (i := 4) (N := some 42) (v := ?_) (a' := ?_) #[tt, tt, tt, tt, tt, tt, tt, tt, tt, ff, ff, ff] rfl rfl (take_ofW HT_.out HW_.out (by kernel_rfl)) (fun _ _ _ h => h) (Or.inl ⟨by rfl, ?_⟩) hHeld ?_ ?_; rotate_left; (· rintro w' ⟨s0, s1, s2, s3, s4, s5, s6, s7⟩; go_simp; with_reducible rfl); rotate_left; (· simp only [Act.put, sA, sB, sC, i64_w, i32_w]; rfl)
                    refine take_ (i := 9) (N := some 47) (v := ?_) (a' := ?_) #[tt, tt, tt, tt, tt, tt, tt, tt, tt, tt, ff, ff] rfl rfl (take_ofW HT_.out HW_.out (by kernel_rfl)) (fun _ _ _ h => h) (Or.inl ⟨by rfl, ?_⟩) hHeld ?_ ?_; rotate_left; (· rintro w' ⟨s0, s1, s2, s3, s4, s5, s6, s7⟩; go_simp; with_reducible rfl); rotate_left; (· simp only [Act.put, sA, sB, sC, i64_w, i32_w]; rfl)
                    refine one_ (i := 10) (N := some 48) #[tt, tt, tt, tt, tt, tt, tt, tt, tt, tt, tt, ff] rfl rfl (one_of HT_.out (by kernel_rfl)) (by decide) (fun K hK => ?_)
                    refine goesV_ Tryd.func66 (by kernel_rfl) rfl #[.agg #[.string ((rd_T68 yy x7_2).f0), .int .i64 ((rd_T68 yy x7_2).f1), .int .i64 ((rd_T68 yy x7_2).f2), .string ((rd_T68 yy x7_2).f3)], .agg #[.string ((rd_T68 yy (ji19)).f0), .int .i64 ((rd_T68 yy (ji19)).f1), .int .i64 ((rd_T68 yy (ji19)).f2), .string ((rd_T68 yy (ji19)).f3)]] (by rfl) rfl rfl rfl (by (try simp only [List.map_toArray, List.map_cons, List.map_nil]); first | done | (simp only [hji19]; rfl) | rfl | (simp only [List.length_drop, List.length_take]; rfl)) ?_
                    with_reducible refine (zone_Sort_1.calls k2 ((rd_T68 yy x7_2).f0) ((rd_T68 yy x7_2).f1) ((rd_T68 yy x7_2).f2) ((rd_T68 yy x7_2).f3) ((rd_T68 yy (ji19)).f0) ((rd_T68 yy (ji19)).f1) ((rd_T68 yy (ji19)).f2) ((rd_T68 yy (ji19)).f3) false _ A22.out).mono ?_
                    rintro e w30 ⟨rfl, hb⟩
                    have HS0_ := (hb.cell (World.block_lt_of_cell? _ _ (hHeld.1))).trans (hHeld.1)
                    have HS1_ := (hb.cell (World.block_lt_of_cell? _ _ (hHeld.2.1))).trans (hHeld.2.1)
                    have HS2_ := (hb.cell (World.block_lt_of_cell? _ _ (hHeld.2.2.1))).trans (hHeld.2.2.1)
                    have HS3_ := (hb.cell (World.block_lt_of_cell? _ _ (hHeld.2.2.2.1))).trans (hHeld.2.2.2.1)
                    have HS4_ := (hb.cell (World.block_lt_of_cell? _ _ (hHeld.2.2.2.2.1))).trans (hHeld.2.2.2.2.1)
                    have HS5_ := (hb.cell (World.block_lt_of_cell? _ _ (hHeld.2.2.2.2.2.1))).trans (hHeld.2.2.2.2.2.1)
                    have HS6_ := (hb.cell (World.block_lt_of_cell? _ _ (hHeld.2.2.2.2.2.2.1))).trans (hHeld.2.2.2.2.2.2.1)
                    have HS7_ := (hb.cell (World.block_lt_of_cell? _ _ (hHeld.2.2.2.2.2.2.2))).trans (hHeld.2.2.2.2.2.2.2)
                    refine ⟨_, rfl, ?_⟩
                    have n0_ := Aside0.mk (Kd.R_below (by (with_reducible repeat (first | apply Kd.R_alloc | apply Kd.R_drewN | apply Kd.R_drew)); exact HO_0.out) hb)
                    have n1_ := Aside0.mk (Kept.below (S := (fun k_ => P0_ k_)) (by repeat (first | (with_reducible first | exact HK.out | apply Kept.alloc | apply Kept.drewN | apply Kept.drew) | exact HK.out)) hb)
                    have n2_ := Aside0.mk (below_step (by repeat (first | (with_reducible first | exact HB.out | apply below_alloc | apply pw_below_drewN | apply below_drew1) | exact HB.out)) hb)
                    clear HO_0; clear HK; clear HB; have HO_0 := n0_; have HK := n1_; have HB := n2_; clear n0_ n1_ n2_; (try clear hb); (try clear hb2); (try clear hk); (try clear hi)
                    refine hK.out _ _ ⟨HS0_, HS1_, HS2_, HS3_, HS4_, HS5_, HS6_, HS7_⟩ (fun hHeld => ?_)
                    clear hK K
                    refine norm_ (a' := ?_) ?_ ?_; rotate_left; (· show Act.put _ (some 48) _ = _; simp only [Act.put, sA, sB, sC, i64_w, i32_w]; rfl)
                    refine pure_ (i := 11) (N := some 49) (v := ?_) (a' := ?_) #[tt, tt, tt, tt, tt, tt, tt, tt, tt, tt, tt, tt] rfl rfl (any_of HT_.out (by kernel_rfl)) (fun _ _ _ h => h) (Or.inl ⟨by rfl, ?_⟩) ?_ ?_; rotate_left; (· intro w'; go_simp; with_reducible rfl); rotate_left; (· simp only [Act.put, sA, sB, sC, i64_w, i32_w]; rfl)
                    refine done_ (done_of HT_.out (by kernel_rfl)) ?_
                    have p223 : 0 ≤ (x7_2 : Int) := of_decide_eq_true (by first | (with_reducible assumption) | assumption)
                    have q223 : x7_2 < (y216.length : Int) := of_decide_eq_true (by first | (with_reducible assumption) | assumption)
                    have HRn := Aside0.mk (show Kd.C k68 _ (some ad220) yy.length yy from by rw [show (some ad220) = _ from KA16.out, Hyy.out]; exact cut_reads HO_0.out (by rw [← hl0_2]; exact KL16.out))
                    obtain ⟨ad223, e223, hx223_0, hx223_1, hx223_2, hx223_3⟩ := at_T68 HRn.out x7_2 p223 (by rw [hyl]; exact q223)
                    clear HRn
                    obtain rfl : ad220 = ad223 := (by injection e223)
                    replace p223 := eq_true p223; replace q223 := eq_true q223
                    have p28 : 0 ≤ (x5_2 : Int) := of_decide_eq_true (by first | (with_reducible assumption) | assumption)
                    have q28 : (x5_2 : Int) < ((x0_2.length : Int) : Int) := of_decide_eq_true (by first | (with_reducible assumption) | assumption)
                    obtain ⟨go28, co28, eo28, gb28, gl28, cl28, HG28⟩ := Kd.R_form HO_0.out (by omega)
                    (first | cases eo28 | (injection eo28 with ea_ en_ ec_; (first | subst ea_ | (injection ea_ with ea_; subst ea_)); subst ec_; clear en_))
                    have GB28 := Aside0.mk gb28; have GG28 := Aside0.mk HG28; clear gb28 gl28 HG28
                    have HMgo28 := Aside0.mk (show (P0_ go28 ∨ w.heap.size ≤ go28) from (HO_0.out.1 _ rfl))
                    (first | simp only [add_plain] at hx213_0 | skip); (first | simp only [add_plain] at hx213_1 | skip); (first | simp only [add_plain] at hx213_2 | skip); (first | simp only [add_plain] at hx213_3 | skip); (first | simp only [add_plain] at hx214_0 | skip); (first | simp only [add_plain] at hx214_1 | skip); (first | simp only [add_plain] at hx214_2 | skip); (first | simp only [add_plain] at hx214_3 | skip)
                    obtain ⟨ce28, hcl28, hM28, hcc28, hfr28⟩ := Kd.R_elem HO_0.out z68 (x5_2 : Int) p28 q28
                    obtain rfl := k68_openM hM28
                    have hx28_0 : w30.cell? ⟨go28, (x5_2 : Int).toNat * 4, none⟩ = some (.string ((rd_T68 x0_2 x5_2).f0)) := hcc28 0 _ rfl
                    have hx28_1 : w30.cell? ⟨go28, (x5_2 : Int).toNat * 4 + 1, none⟩ = some (.int .i64 ((rd_T68 x0_2 x5_2).f1)) := hcc28 1 _ rfl
                    have hx28_2 : w30.cell? ⟨go28, (x5_2 : Int).toNat * 4 + 2, none⟩ = some (.int .i64 ((rd_T68 x0_2 x5_2).f2)) := hcc28 2 _ rfl
                    have hx28_3 : w30.cell? ⟨go28, (x5_2 : Int).toNat * 4 + 3, none⟩ = some (.string ((rd_T68 x0_2 x5_2).f3)) := hcc28 3 _ rfl
                    have hf28_0 : w30.frozen? ⟨go28, (x5_2 : Int).toNat * 4, none⟩ = false := hfr28 0
                    have hf28_1 : w30.frozen? ⟨go28, (x5_2 : Int).toNat * 4 + 1, none⟩ = false := hfr28 1
                    have hf28_2 : w30.frozen? ⟨go28, (x5_2 : Int).toNat * 4 + 2, none⟩ = false := hfr28 2
                    have hf28_3 : w30.frozen? ⟨go28, (x5_2 : Int).toNat * 4 + 3, none⟩ = false := hfr28 3
                    clear hcl28 hcc28 hfr28 hM28; replace p28 := eq_true p28; replace q28 := eq_true q28
                    have HX31 := Aside0.mk (show Kd.R k68 68 w30 w0.heap.size (fun k_ => (P0_ k_ ∨ w.heap.size ≤ k_)) (.slice (some ⟨go28, 0, none⟩) x0_2.length co4) x0_2 from (by (with_reducible repeat (first | apply Kd.R_alloc | apply Kd.R_drewN | apply Kd.R_drew)); exact HO_0.out))
                    obtain ⟨ce31, hcl31, hM31, hcc31, hfr31⟩ := Kd.R_elem HX31.out z68 (x5_2 : Int) (of_decide_eq_true (by first | (with_reducible assumption) | assumption)) (by have h_ : (x5_2 : Int) < ((x0_2.length : Int) : Int) := of_decide_eq_true (by first | (with_reducible assumption) | assumption); first | exact h_ | (have e_ := (Kd.R_reads' HO_0.out).1; omega) | simpa using h_)
                    obtain rfl := k68_openM hM31
                    have HP31 := Kd.R_seg HX31.out (x5_2 : Int) (of_decide_eq_true (by first | (with_reducible assumption) | assumption)) (by have h_ : (x5_2 : Int) < ((x0_2.length : Int) : Int) := of_decide_eq_true (by first | (with_reducible assumption) | assumption); first | exact h_ | (have e_ := (Kd.R_reads' HO_0.out).1; omega) | simpa using h_) (seg := [.string ((rd_T68 yy x7_2).f0), .int .i64 ((rd_T68 yy x7_2).f1), .int .i64 ((rd_T68 yy x7_2).f2), .string ((rd_T68 yy x7_2).f3)]) (j := 0) hcl31 hcc31 (show 4 ≤ 4 from by decide) (x' := (⟨(rd_T68 yy x7_2).f0, (rd_T68 yy x7_2).f1, (rd_T68 yy x7_2).f2, (rd_T68 yy x7_2).f3⟩ : S68)) (k68_mkM _ _ _ (⟨(rd_T68 yy x7_2).f0, (rd_T68 yy x7_2).f1, (rd_T68 yy x7_2).f2, (rd_T68 yy x7_2).f3⟩ : S68) ) (fun _ hk => hk)
                    have hx31_0 := hcc31 0 _ rfl
                    (try simp only [show (k68).sz = 4 from rfl, Nat.mul_one, Nat.add_zero] at hx31_0)
                    have hf31_0 := hfr31 0
                    (try simp only [show (k68).sz = 4 from rfl, Nat.mul_one, Nat.add_zero] at hf31_0)
                    have hx31_1 := hcc31 1 _ rfl
                    (try simp only [show (k68).sz = 4 from rfl, Nat.mul_one, Nat.add_zero] at hx31_1)
                    have hf31_1 := hfr31 1
                    (try simp only [show (k68).sz = 4 from rfl, Nat.mul_one, Nat.add_zero] at hf31_1)
                    have hx31_2 := hcc31 2 _ rfl
                    (try simp only [show (k68).sz = 4 from rfl, Nat.mul_one, Nat.add_zero] at hx31_2)
                    have hf31_2 := hfr31 2
                    (try simp only [show (k68).sz = 4 from rfl, Nat.mul_one, Nat.add_zero] at hf31_2)
                    have hx31_3 := hcc31 3 _ rfl
                    (try simp only [show (k68).sz = 4 from rfl, Nat.mul_one, Nat.add_zero] at hx31_3)
                    have hf31_3 := hfr31 3
                    (try simp only [show (k68).sz = 4 from rfl, Nat.mul_one, Nat.add_zero] at hf31_3)
                    clear hcl31 hcc31 hfr31 hM31
                    try go_wp2_with (first | ((with_reducible refine gate_store (t := 68) (p := 56) rfl ?_); refine store_event (t := 68) (p := 56) (v := ?vo_w32) (w1 := ((((w30.setCell ⟨go28, (x5_2 : Int).toNat * 4, none⟩ (.string ((rd_T68 yy x7_2).f0))).setCell ⟨go28, (x5_2 : Int).toNat * 4 + 1, none⟩ (.int .i64 ((rd_T68 yy x7_2).f1))).setCell ⟨go28, (x5_2 : Int).toNat * 4 + 2, none⟩ (.int .i64 ((rd_T68 yy x7_2).f2))).setCell ⟨go28, (x5_2 : Int).toNat * 4 + 3, none⟩ (.string ((rd_T68 yy x7_2).f3)))) ?hg ?ho ?hn ?hr ?_; (case ho => rfl); (case hg => rfl); (case hn => rfl); (case hr => first | (go_simp; done) | (go_simp; rfl)); intro w32 hw; have hg : w30.grownBy w32 (some go28) := (by rw [hw]; exact HP31.2); have hp_ : Kd.R k68 68 w32 w0.heap.size (fun k_ => (P0_ k_ ∨ w.heap.size ≤ k_)) (.slice (some ⟨go28, 0, none⟩) x0_2.length co4) y224 := (by rw [hw, Ny224.out]; exact HP31.1); clear HP31; have n0_ := Aside0.mk (hp_); have n1_ := Aside0.mk ((by rw [hw]; exact below_set (below_set (below_set (below_set (HB.out) GB28.out) GB28.out) GB28.out) GB28.out : Below w0.heap.size w0 w32)); have n2_ := Aside0.mk (Kept.of_grown (S := (fun k_ => P0_ k_)) hg (by repeat (first | (with_reducible first | exact HK.out | apply Kept.alloc | apply Kept.drewN | apply Kept.drew) | exact HK.out)) (fun k_ e_ => (HO_0.out.1 k_ e_))); clear HO_0; clear HB; clear HK; have HO_0 := n0_; have HB := n1_; have HK := n2_; clear n0_ n1_ n2_; clear hg hw hp_))
                    (try simp only [← hl0_2])
                    go_roundg k2
                    case measure => have := HK1.out; have := HK2.out; omega
                    case rel => exact ⟨(y224), (wrap64 (x5_2 + 1)), (wrap64 (x7_2 + 1)), (by first | rfl | (simp; done) | (simp [*]; done)), (by first | rfl | (simp; done) | (simp [*]; done)), H', ⟨by have := HK1.out; have := HK2.out; omega⟩, ⟨by (try simp only [hl0_1]); (try simp only [hl0_2]); (with_reducible repeat (first | apply Kd.R_alloc | apply Kd.R_drewN | apply Kd.R_drew)); exact HO_0.out⟩, ⟨by repeat (first | (with_reducible first | exact HK.out | apply Kept.alloc | apply Kept.drewN | apply Kept.drew) | exact HK.out)⟩, ⟨by repeat (first | (with_reducible first | exact HB.out | apply below_alloc | apply pw_below_drewN | apply below_drew1) | exact HB.out)⟩⟩
                · rw [if_neg c17] at H
                  have c17b0 : decide (x7_2 < (y216.length : Int)) = false := decide_eq_false c17
                  clear c17
                  by_cases c33 : 0 ≤ x5_2
                  rotate_left
                  · rw [if_neg c33] at H; exact absurd H (by simp)
                  rw [if_pos c33] at H
                  have c33b0 := eq_true c33
                  have c33b1 : decide (0 ≤ x5_2) = true := decide_eq_true c33
                  clear c33
                  by_cases c34 : x5_2 ≤ (x0_2.length : Int)
                  rotate_left
                  · rw [if_neg c34] at H; exact absurd H (by simp)
                  rw [if_pos c34] at H
                  have c34b0 := eq_true c34
                  have c34b1 : decide (x5_2 ≤ (x0_2.length : Int)) = true := decide_eq_true c34
                  clear c34
                  obtain ⟨y225, hy225⟩ : ∃ y_ : List (S68), y_ = (x0_2.drop (x5_2 : Int).toNat) := ⟨_, rfl⟩
                  replace H : (some (x0_2.take (x5_2 : Int).toNat)) = some r := by first | (rw [hy225]; with_reducible exact H) | (have H2_ := (Option.bind_some _ _).symm.trans H; rw [hy225]; with_reducible exact H2_) | (have H2_ := (Option.bind_some _ _).symm.trans H; with_reducible exact H2_) | with_reducible exact H | (rw [hy225]; exact H) | exact H
                  have Ny225 := Aside0.mk hy225; clear hy225
                  have c35b0 := eq_true (of_decide_eq_true (by first | (with_reducible assumption) | assumption) : x5_2 ≤ (x0_2.length : Int))
                  obtain ⟨y229, hy229⟩ : ∃ y_ : List (S68), y_ = (x0_2.take (x5_2 : Int).toNat) := ⟨_, rfl⟩
                  replace H : (some y229) = some r := by first | (rw [hy229]; with_reducible exact H) | (have H2_ := (Option.bind_some _ _).symm.trans H; rw [hy229]; with_reducible exact H2_) | (have H2_ := (Option.bind_some _ _).symm.trans H; with_reducible exact H2_) | with_reducible exact H | (rw [hy229]; exact H) | exact H
                  have Ny229 := Aside0.mk hy229; clear hy229; obtain rfl := Option.some.inj H
                  have q36 : (x5_2 : Int) ≤ ((x0_2.length : Int) : Int) := of_decide_eq_true (by first | (with_reducible assumption) | assumption)
                  obtain ⟨i036, hi036, _, hsz36, _⟩ := info_parts info68
                  have hroom36 : x0_2.length ≤ co4 := (Kd.R_reads' HO_0.out).2.1
                  have hC36 : Kd.C k68 _ (some ad213) x0_2.length x0_2 := (Kd.R_reads' HO_0.out).2.2
                  have q036 : (0 : Int) ≤ (x5_2 : Int) := of_decide_eq_true (by first | (with_reducible assumption) | assumption)
                  have hcut36 := cut_from (P := Tryd.prog) 50 68 .i64 Tryd.underlying50 hi036 4 hsz36 (some ad213) x0_2.length co4 x5_2 q036 q36
                  have hr36 := Kd.C_drop (m := (x5_2 : Int).toNat) (c := co4) hC36 (by omega) hroom36
                  obtain ⟨A36, hA36⟩ : ∃ A1, A1 = (if co4 = (x5_2 : Int).toNat then (some ad213) else ((some ad213) : Option Addr).map (·.add ((x5_2 : Int).toNat * 4))) := ⟨_, rfl⟩
                  obtain ⟨c36, hc36⟩ : ∃ c1, c1 = co4 - (x5_2 : Int).toNat := ⟨_, rfl⟩
                  have hy36 : y225.length = x0_2.length - (x5_2 : Int).toNat := (by rw [Ny225.out, List.length_drop] <;> omega)
                  rw [show (x0_2).drop (x5_2 : Int).toNat = y225 from Ny225.out.symm] at hr36
                  replace hr36 : Kd.C k68 _ A36 y225.length y225 := (by rw [hA36]; exact hr36)
                  rw [← hy36, ← hA36, ← hc36] at hcut36
                  have HR228 := Aside0.mk hr36
                  have HC228 := Aside0.mk (show y225.length ≤ c36 from by rw [hy36, hc36]; exact Nat.sub_le_sub_right hroom36 _)
                  clear hr36 hC36 hroom36 hi036 hsz36 hc36; have KY36 := Aside0.mk hy36; have KA36 := Aside0.mk hA36; clear hy36 hA36
                  have KL36 := Aside0.mk (show (x5_2 : Int).toNat ≤ x0_2.length from by omega)
                  replace q36 := eq_true q36
                  have q37 : (x5_2 : Int) ≤ ((x0_2.length : Int) : Int) := of_decide_eq_true (by first | (with_reducible assumption) | assumption)
                  obtain ⟨i037, hi037, _, hsz37, _⟩ := info_parts info68
                  have hcut37 := cut_to (P := Tryd.prog) 50 68 .i64 Tryd.underlying50 hi037 (some ad213) x0_2.length co4 x5_2 (of_decide_eq_true (by first | (with_reducible assumption) | assumption)) q37 (Kd.R_reads' HO_0.out).2.1
                  go_wp2_with (first | ((with_reducible refine gate_builtin (b := .clear) (xs := #[.tmp 61]) rfl ?_); refine Go.Proofs.YtbcocpaeehgmnaaDoorW.Clear.clear_R (d := k68) (s := (x5_2 : Int).toNat) rfl (.tmp 61) 50 _ rfl Tryd.underlying50 (fun _ => Tryd.zeroValue68 _) (by rfl) (by rfl) rfl HO_0.out ?cs KA36.out (KY36.out.trans rfl) ?_; (case cs => have := KL36.out; omega); intro w99 hR99 hg99 hb99; have n0_ := Aside0.mk hR99; have n1_ := Aside0.mk (HB.out.trans hb99); have n2_ := Aside0.mk (Kept.of_grown (S := (fun k_ => P0_ k_)) hg99 (by repeat (first | (with_reducible first | exact HK.out | apply Kept.alloc | apply Kept.drewN | apply Kept.drew) | exact HK.out)) (fun k_ e_ => by cases e_; exact HO_0.out.1 _ rfl)); clear HO_0; clear HB; clear HK; have HO_0 := n0_; have HB := n1_; have HK := n2_; clear n0_ n1_ n2_; clear hg99 hb99 hR99))
                  have hr37 := HO_0.out
                  rw [← Ny229.out] at hr37
                  clear hi037 hsz37 HO_0; have HO231 := Aside0.mk hr37; clear hr37; replace q37 := eq_true q37
                  go_wp2
                  go_ret
                  exact ⟨_, by first | rfl | (simp [errW_none, errW_some] <;> rfl) | (simp only [← hji7]; first | rfl | (simp [errW_none, errW_some] <;> rfl)) | (simp [*, errW_none, errW_some] <;> rfl), by (with_reducible repeat (first | apply Kd.R_alloc | apply Kd.R_drewN | apply Kd.R_drew)); exact HO231.out, by repeat (first | (with_reducible first | exact HB.out | apply below_alloc | apply pw_below_drewN | apply below_drew1) | exact HB.out), by repeat (first | (with_reducible first | exact HK.out | apply Kept.alloc | apply Kept.drewN | apply Kept.drew) | exact HK.out)⟩
          · replace c11 := Bool.eq_false_iff.mpr c11
            subst c11
            have H1 : (api_ZoneRecord_65.l0 k1 x0_1 (wrap64 (x5_1 + 1))) = some r := by rw [if_neg (show ¬ (false = true) by decide)] at H; exact H
            clear H; have H := H1; clear H1
            have H' := Aside0.mk H
            clear H; (try go_wp2); have n0_ := Aside0.mk (Kd.R_drew HO_0.out); have n1_ := Aside0.mk (Kept.drew HK.out); have n2_ := Aside0.mk (below_drew1 HB.out); clear HO_0; clear HK; clear HB; have HO_0 := n0_; have HK := n1_; have HB := n2_; clear n0_ n1_ n2_
            have p213 : 0 ≤ (x5_1 : Int) := of_decide_eq_true (by first | (with_reducible assumption) | assumption)
            have q213 : x5_1 < (x0_1.length : Int) := of_decide_eq_true (by first | (with_reducible assumption) | assumption)
            obtain ⟨ad213, e213, hx213_0, hx213_1, hx213_2, hx213_3⟩ := at_T68 (Kd.R_reads' HO_0.out).2.2 x5_1 p213 q213
            cases e213; replace p213 := eq_true p213; replace q213 := eq_true q213
            have p214 : 0 ≤ ((ji7) : Int) := of_decide_eq_true (by first | (with_reducible assumption) | assumption)
            have q214 : (ji7) < (x0_1.length : Int) := of_decide_eq_true (by first | (with_reducible assumption) | assumption)
            obtain ⟨ad214, e214, hx214_0, hx214_1, hx214_2, hx214_3⟩ := at_T68 (Kd.R_reads' HO_0.out).2.2 (ji7) p214 q214
            obtain rfl : ad213 = ad214 := (by injection e214)
            replace p214 := eq_true p214; replace q214 := eq_true q214
            refine start_ (n := 11) (S := fun w' => w'.cell? (ad213.add ((x5_1).toNat * 4)) = some (.string ((rd_T68 x0_1 x5_1).f0)) ∧ w'.cell? ⟨(ad213.add ((x5_1).toNat * 4)).block, (ad213.add ((x5_1).toNat * 4)).off + 1, none⟩ = some (.int .i64 ((rd_T68 x0_1 x5_1).f1)) ∧ w'.cell? ⟨(ad213.add ((x5_1).toNat * 4)).block, (ad213.add ((x5_1).toNat * 4)).off + 2, none⟩ = some (.int .i64 ((rd_T68 x0_1 x5_1).f2)) ∧ w'.cell? ⟨(ad213.add ((x5_1).toNat * 4)).block, (ad213.add ((x5_1).toNat * 4)).off + 3, none⟩ = some (.string ((rd_T68 x0_1 x5_1).f3)) ∧ w'.cell? (ad213.add (((ji7)).toNat * 4)) = some (.string ((rd_T68 x0_1 (ji7)).f0)) ∧ w'.cell? ⟨(ad213.add (((ji7)).toNat * 4)).block, (ad213.add (((ji7)).toNat * 4)).off + 1, none⟩ = some (.int .i64 ((rd_T68 x0_1 (ji7)).f1)) ∧ w'.cell? ⟨(ad213.add (((ji7)).toNat * 4)).block, (ad213.add (((ji7)).toNat * 4)).off + 2, none⟩ = some (.int .i64 ((rd_T68 x0_1 (ji7)).f2)) ∧ w'.cell? ⟨(ad213.add (((ji7)).toNat * 4)).block, (ad213.add (((ji7)).toNat * 4)).off + 3, none⟩ = some (.string ((rd_T68 x0_1 (ji7)).f3))) (ds := []) #[ff, ff, ff, ff, ff, ff, ff, ff, ff, ff, ff] (by kernel_rfl) rfl rfl ⟨hx213_0, hx213_1, hx213_2, hx213_3, hx214_0, hx214_1, hx214_2, hx214_3⟩ (fun hHeld => ?_); refine with_tabW api_ZoneRecord_65.tab6 api_ZoneRecord_65.bits6 (fun HT_ HW_ => ?_)
            generalize wr.drew = w38 at HO_0 HK HB hx213_0 hx213_1 hx213_2 hx213_3 hx214_0 hx214_1 hx214_2 hx214_3 hHeld ⊢
            refine pure_ (i := 0) (N := some 18) (v := ?_) (a' := ?_) #[tt, ff, ff, ff, ff, ff, ff, ff, ff, ff, ff] rfl rfl (any_of HT_.out (by kernel_rfl)) (fun _ _ _ h => h) (Or.inl ⟨by rfl, ?_⟩) ?_ ?_; rotate_left; (· intro w'; go_simp; with_reducible rfl); rotate_left; (· simp only [Act.put, sA, sB, sC, i64_w, i32_w]; rfl)
            refine pure_ (i := 1) (N := some 19) (v := ?_) (a' := ?_) #[tt, tt, ff, ff, ff, ff, ff, ff, ff, ff, ff] rfl rfl (any_of HT_.out (by kernel_rfl)) (fun _ _ _ h => h) (Or.inl ⟨by rfl, ?_⟩) ?_ ?_; rotate_left; (· intro w'; go_simp; with_reducible rfl); rotate_left; (· simp only [Act.put, sA, sB, sC, i64_w, i32_w]; rfl)
            refine pure_ (i := 2) (N := some 20) (v := ?_) (a' := ?_) #[tt, tt, tt, ff, ff, ff, ff, ff, ff, ff, ff] rfl rfl (any_of HT_.out (by kernel_rfl)) (fun _ _ _ h => h) (Or.inl ⟨by rfl, ?_⟩) ?_ ?_; rotate_left; (· intro w'; go_simp; with_reducible rfl); rotate_left; (· simp only [Act.put, sA, sB, sC, i64_w, i32_w]; rfl)
            refine pure_ (i := 3) (N := some 21) (v := ?_) (a' := ?_) #[tt, tt, tt, tt, ff, ff, ff, ff, ff, ff, ff] rfl rfl (any_of HT_.out (by kernel_rfl)) (fun _ _ _ h => h) (Or.inl ⟨by rfl, ?_⟩) ?_ ?_; rotate_left; (· intro w'; go_simp; with_reducible rfl); rotate_left; (· simp only [Act.put, sA, sB, sC, i64_w, i32_w]; rfl)
            refine pure_ (i := 5) (N := some 23) (v := ?_) (a' := ?_) #[tt, tt, tt, tt, ff, tt, ff, ff, ff, ff, ff] rfl rfl (any_of HT_.out (by kernel_rfl)) (fun _ _ _ h => h) (Or.inl ⟨by rfl, ?_⟩) ?_ ?_; rotate_left; (· intro w'; go_simp; with_reducible rfl); rotate_left; (· simp only [Act.put, sA, sB, sC, i64_w, i32_w]; rfl)
            refine pure_ (i := 6) (N := some 24) (v := ?_) (a' := ?_) #[tt, tt, tt, tt, ff, tt, tt, ff, ff, ff, ff] rfl rfl (any_of HT_.out (by kernel_rfl)) (fun _ _ _ h => h) (Or.inl ⟨by rfl, ?_⟩) ?_ ?_; rotate_left; (· intro w'; go_simp; with_reducible rfl); rotate_left; (· simp only [Act.put, sA, sB, sC, i64_w, i32_w]; rfl)
            refine pure_ (i := 7) (N := some 25) (v := ?_) (a' := ?_) #[tt, tt, tt, tt, ff, tt, tt, tt, ff, ff, ff] rfl rfl (any_of HT_.out (by kernel_rfl)) (fun _ _ _ h => h) (Or.inl ⟨by rfl, ?_⟩) ?_ ?_; rotate_left; (· intro w'; go_simp; with_reducible rfl); rotate_left; (· simp only [Act.put, sA, sB, sC, i64_w, i32_w]; rfl)
            refine pure_ (i := 8) (N := some 26) (v := ?_) (a' := ?_) #[tt, tt, tt, tt, ff, tt, tt, tt, tt, ff, ff] rfl rfl (any_of HT_.out (by kernel_rfl)) (fun _ _ _ h => h) (Or.inl ⟨by rfl, ?_⟩) ?_ ?_; rotate_left; (· intro w'; go_simp; with_reducible rfl); rotate_left; (· simp only [Act.put, sA, sB, sC, i64_w, i32_w]; rfl)
            refine take_ (i := 4) (N := some 22) (v := ?_) (a' := ?_) #[tt, tt, tt, tt, tt, tt, tt, tt, tt, ff, ff] rfl rfl (take_ofW HT_.out HW_.out (by kernel_rfl)) (fun _ _ _ h => h) (Or.inl ⟨by rfl, ?_⟩) hHeld ?_ ?_; rotate_left; (· rintro w' ⟨s0, s1, s2, s3, s4, s5, s6, s7⟩; go_simp; with_reducible rfl); rotate_left; (· simp only [Act.put, sA, sB, sC, i64_w, i32_w]; rfl)
            refine take_ (i := 9) (N := some 27) (v := ?_) (a' := ?_) #[tt, tt, tt, tt, tt, tt, tt, tt, tt, tt, ff] rfl rfl (take_ofW HT_.out HW_.out (by kernel_rfl)) (fun _ _ _ h => h) (Or.inl ⟨by rfl, ?_⟩) hHeld ?_ ?_; rotate_left; (· rintro w' ⟨s0, s1, s2, s3, s4, s5, s6, s7⟩; go_simp; with_reducible rfl); rotate_left; (· simp only [Act.put, sA, sB, sC, i64_w, i32_w]; rfl)
            refine one_ (i := 10) (N := some 28) #[tt, tt, tt, tt, tt, tt, tt, tt, tt, tt, tt] rfl rfl (one_of HT_.out (by kernel_rfl)) (by decide) (fun K hK => ?_)
            refine goesV_ Tryd.func66 (by kernel_rfl) rfl #[.agg #[.string ((rd_T68 x0_1 x5_1).f0), .int .i64 ((rd_T68 x0_1 x5_1).f1), .int .i64 ((rd_T68 x0_1 x5_1).f2), .string ((rd_T68 x0_1 x5_1).f3)], .agg #[.string ((rd_T68 x0_1 (ji7)).f0), .int .i64 ((rd_T68 x0_1 (ji7)).f1), .int .i64 ((rd_T68 x0_1 (ji7)).f2), .string ((rd_T68 x0_1 (ji7)).f3)]] (by rfl) rfl rfl rfl (by (try simp only [List.map_toArray, List.map_cons, List.map_nil]); first | done | (simp only [hji7]; rfl) | rfl | (simp only [List.length_drop, List.length_take]; rfl)) ?_
            with_reducible refine (zone_Sort_1.calls k1 ((rd_T68 x0_1 x5_1).f0) ((rd_T68 x0_1 x5_1).f1) ((rd_T68 x0_1 x5_1).f2) ((rd_T68 x0_1 x5_1).f3) ((rd_T68 x0_1 (ji7)).f0) ((rd_T68 x0_1 (ji7)).f1) ((rd_T68 x0_1 (ji7)).f2) ((rd_T68 x0_1 (ji7)).f3) false _ A10.out).mono ?_
            rintro e w39 ⟨rfl, hb⟩
            have HS0_ := (hb.cell (World.block_lt_of_cell? _ _ (hHeld.1))).trans (hHeld.1)
            have HS1_ := (hb.cell (World.block_lt_of_cell? _ _ (hHeld.2.1))).trans (hHeld.2.1)
            have HS2_ := (hb.cell (World.block_lt_of_cell? _ _ (hHeld.2.2.1))).trans (hHeld.2.2.1)
            have HS3_ := (hb.cell (World.block_lt_of_cell? _ _ (hHeld.2.2.2.1))).trans (hHeld.2.2.2.1)
            have HS4_ := (hb.cell (World.block_lt_of_cell? _ _ (hHeld.2.2.2.2.1))).trans (hHeld.2.2.2.2.1)
            have HS5_ := (hb.cell (World.block_lt_of_cell? _ _ (hHeld.2.2.2.2.2.1))).trans (hHeld.2.2.2.2.2.1)
            have HS6_ := (hb.cell (World.block_lt_of_cell? _ _ (hHeld.2.2.2.2.2.2.1))).trans (hHeld.2.2.2.2.2.2.1)
            have HS7_ := (hb.cell (World.block_lt_of_cell? _ _ (hHeld.2.2.2.2.2.2.2))).trans (hHeld.2.2.2.2.2.2.2)
            refine ⟨_, rfl, ?_⟩
            have n0_ := Aside0.mk (Kd.R_below (by (with_reducible repeat (first | apply Kd.R_alloc | apply Kd.R_drewN | apply Kd.R_drew)); exact HO_0.out) hb)
            have n1_ := Aside0.mk (Kept.below (S := (fun k_ => P0_ k_)) (by repeat (first | (with_reducible first | exact HK.out | apply Kept.alloc | apply Kept.drewN | apply Kept.drew) | exact HK.out)) hb)
            have n2_ := Aside0.mk (below_step (by repeat (first | (with_reducible first | exact HB.out | apply below_alloc | apply pw_below_drewN | apply below_drew1) | exact HB.out)) hb)
            clear HO_0; clear HK; clear HB; have HO_0 := n0_; have HK := n1_; have HB := n2_; clear n0_ n1_ n2_; (try clear hb); (try clear hb2); (try clear hk); (try clear hi)
            refine hK.out _ _ ⟨HS0_, HS1_, HS2_, HS3_, HS4_, HS5_, HS6_, HS7_⟩ (fun hHeld => ?_)
            clear hK K
            refine norm_ (a' := ?_) ?_ ?_; rotate_left; (· show Act.put _ (some 28) _ = _; simp only [Act.put, sA, sB, sC, i64_w, i32_w]; rfl)
            refine done_ (done_of HT_.out (by kernel_rfl)) ?_
            (try go_wp2)
            (try simp only [← hl0_1])
            go_roundg k1
            case measure => have := HK1.out; omega
            case rel => exact ⟨(x0_1), (wrap64 (x5_1 + 1)), (by first | rfl | (simp; done) | (simp [*]; done)), H', ⟨by have := HK1.out; omega⟩, ⟨by (try simp only [hl0_1]); (with_reducible repeat (first | apply Kd.R_alloc | apply Kd.R_drewN | apply Kd.R_drew)); exact HO_0.out⟩, ⟨by repeat (first | (with_reducible first | exact HK.out | apply Kept.alloc | apply Kept.drewN | apply Kept.drew) | exact HK.out)⟩, ⟨by repeat (first | (with_reducible first | exact HB.out | apply below_alloc | apply pw_below_drewN | apply below_drew1) | exact HB.out)⟩⟩
        · rw [if_neg c5] at H
          have c5b0 : decide (x5_1 < (x0_1.length : Int)) = false := decide_eq_false c5
          clear c5; obtain rfl := Option.some.inj H
          go_wp2
          go_ret
          exact ⟨_, by first | rfl | (simp [errW_none, errW_some] <;> rfl) | (simp [*, errW_none, errW_some] <;> rfl), by (with_reducible repeat (first | apply Kd.R_alloc | apply Kd.R_drewN | apply Kd.R_drew)); exact HO_0.out, by repeat (first | (with_reducible first | exact HB.out | apply below_alloc | apply pw_below_drewN | apply below_drew1) | exact HB.out), by repeat (first | (with_reducible first | exact HK.out | apply Kept.alloc | apply Kept.drewN | apply Kept.drew) | exact HK.out)⟩

end Go.Proofs.YtbcocpaeehgmnaaDoor.Zone
