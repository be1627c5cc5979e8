/- The form of a filter: what the reference's SiftShape answers of the kids. -/
import Derived.Test.YtlkllccbcfhekaaDoorSiftx7
import Derived.Test.YtlkllccbcfhekaaDoorPureSiftD
namespace Go.Proofs.YtlkllccbcfhekaaDoor.Sift
open Go.RowKit Go.Proofs.YtlkllccbcfhekaaDoorW.PrintWords
namespace Pure
set_option maxRecDepth 100000

theorem kids_loop (l : List S24) (hl : l.length < 4611686018427387904) (spec : S24 → Bool) (ih : ∀ y ∈ l, ∃ k, patchbayref4_SiftShape.f k y.f0 y.f1 y.f2 y.f3 y.f4 = some (spec y)) :
    ∀ m j, j + m = l.length → ∃ k, ∀ ok : Bool, patchbayref4_SiftShape.l0 k ok l (l.length : Int) (j : Int) = some (ok && (l.drop j).all spec)
  | 0, j, hj => ⟨1, fun ok => by
      have hd : l.drop j = [] := List.drop_eq_nil_of_le (by omega)
      rw [patchbayref4_SiftShape.l0, if_neg (by omega), hd]
      simp⟩
  | m + 1, j, hj => by
    have hjl : j < l.length := by omega
    have hd : l.drop j = l[j] :: l.drop (j + 1) := List.drop_eq_getElem_cons hjl
    obtain ⟨k1, hk1⟩ := kids_loop l hl spec ih m (j + 1) (by omega)
    obtain ⟨k2, hk2⟩ := ih l[j] (List.getElem_mem hjl)
    refine ⟨max k1 k2 + 1, fun ok => ?_⟩
    have hi : wrap64 ((j : Int) + 1) = ((j + 1 : Nat) : Int) := by rw [w64 (by omega) (by omega)]; rfl
    rw [patchbayref4_SiftShape.l0, if_pos (by omega), if_pos (by omega), if_pos (by omega), hi, hd, List.all_cons]
    simp only [rd_T24_at hjl]
    have e2 := up (f := fun k => patchbayref4_SiftShape.f k l[j].f0 l[j].f1 l[j].f2 l[j].f3 l[j].f4) (fun k => patchbayref4_SiftShape.mono _ _ _ _ _ k) (Nat.le_max_right k1 k2) hk2
    have e1 := fun ok' => up (f := fun k => patchbayref4_SiftShape.l0 k ok' l (l.length : Int) ((j + 1 : Nat) : Int)) (fun k => (patchbayref4_SiftShape.mono_l k).2.2.2.1 _ _ _ _) (Nat.le_max_left k1 k2) (hk1 ok')
    cases ok with
    | true => rw [if_pos rfl, e2, Option.bind_some]; exact (e1 _).trans (by rw [Bool.true_and])
    | false => rw [if_neg (by decide)]; exact (e1 _).trans (by simp)
theorem pow_is : ∀ m : Fin 33, wrap64 (2 ^ (32 - mx 0 (mn ((m.val : Nat) : Int) 32)).toNat) = ((2 ^ (32 - m.val) : Nat) : Int) := by decide +kernel
theorem net_is (v b : Int) (h0 : 0 ≤ v) (h1 : 0 ≤ b) (h2 : b ≤ 32) : wrap64 (2 ^ (32 - mx 0 (mn b 32)).toNat) ≠ 0 ∧ (Int.tmod v (wrap64 (2 ^ (32 - mx 0 (mn b 32)).toNat)) == 0) = netOk v b := by
  obtain ⟨n, rfl⟩ := Int.eq_ofNat_of_zero_le h1
  have hp := pow_is ⟨n, by omega⟩
  simp only at hp
  have hp1 : 0 < 2 ^ (32 - n) := Nat.pow_pos (by decide)
  rw [hp]
  refine ⟨by omega, ?_⟩
  unfold netOk
  rw [show (32 - (n : Int)).toNat = 32 - n by omega, decide_eq_true (by omega : (0 : Int) ≤ (n : Int) ∧ (n : Int) ≤ 32), Bool.true_and, Bool.beq_eq_decide_eq, Int.tmod_eq_emod_of_nonneg h0, Int.natCast_pow]
  rfl
theorem ref_is (op f : ByteArray) (v b : Int) (l : List S24) (kids : Bool) (k1 : Nat) (hk1 : ∀ ok : Bool, patchbayref4_SiftShape.l0 k1 ok l (l.length : Int) 0 = some (ok && kids)) :
    ∃ k, patchbayref4_SiftShape.f k op f v b l = some (shp op f v b l && kids) := by
  obtain ⟨k2, hk2⟩ := among_is f
  obtain ⟨K, hK1, hK2, hK3⟩ : ∃ K, k1 ≤ K ∧ k2 ≤ K ∧ 200 ≤ K := ⟨k1 + k2 + 200, by omega, by omega, by omega⟩
  have hl : ∀ j, k1 ≤ j → ∀ ok : Bool, patchbayref4_SiftShape.l0 j ok l (l.length : Int) 0 = some (ok && kids) := fun j hj ok =>
    up (f := fun k => patchbayref4_SiftShape.l0 k ok l (l.length : Int) 0) (fun k => (patchbayref4_SiftShape.mono_l k).2.2.2.1 _ _ _ _) hj (hk1 ok)
  have hA : patchbayref4_Among.f (K + 2) numbersL f = some (isNum f) := up (f := fun k => patchbayref4_Among.f k numbersL f) (fun k => patchbayref4_Among.mono _ _ k) (by omega) hk2
  have hF : patchbayref4_SiftFields.f (K + 2) = some numbersL := up (f := fun k => patchbayref4_SiftFields.f k) (fun k => patchbayref4_SiftFields.mono k) (by omega) fields_is
  have hla := hl (K + 2) (by omega)
  have hlb := hl (K + 1) (by omega)
  refine ⟨K + 6, ?_⟩
  simp only [patchbayref4_SiftShape.f, patchbayref4_SiftShape.j0, patchbayref4_SiftShape.j1, patchbayref4_SiftShape.j2, patchbayref4_SiftShape.j3, hF, hA, hla, hlb, Option.bind_some]
  unfold shp
  have hnet := net_is v b
  have hno : ¬ (0 ≤ b ∧ b ≤ 32) → netOk v b = false := fun h => by unfold netOk; rw [decide_eq_false h, Bool.false_and]
  clear hA hF hla hlb hl hk1 hk2
  generalize netOk v b = no at *
  generalize wrap64 (2 ^ (32 - mx 0 (mn b 32)).toNat) = W at *
  generalize (Int.tmod v W == 0) = tm at *
  generalize isNum f = nf at *
  generalize f.toList = fl at *
  generalize op.toList = o at *
  have hl2 : ((l.length : Int) = 2) = (l.length = 2) := propext (by omega)
  have hl1 : ((l.length : Int) = 1) = (l.length = 1) := propext (by omega)
  have hl0 : ((l.length : Int) = 0) = (l.length = 0) := propext (by omega)
  simp only [hl2, hl1, hl0, Bool.beq_eq_decide_eq]
  by_cases h1 : o = [97, 110, 100]
  · subst h1; simp; repeat' split
    all_goals simp_all
    all_goals omega
  by_cases h2 : o = [111, 114]
  · subst h2; simp; repeat' split
    all_goals simp_all
    all_goals omega
  by_cases h3 : o = [110, 111, 116]
  · subst h3; simp; repeat' split
    all_goals simp_all
    all_goals omega
  by_cases h7 : o = [105, 110]
  · subst h7; simp; repeat' split
    all_goals simp_all
    all_goals omega
  by_cases h4 : o = [61]
  · subst h4; simp; repeat' split
    all_goals simp_all
    all_goals omega
  by_cases h5 : o = [60]
  · subst h5; simp; repeat' split
    all_goals simp_all
    all_goals omega
  by_cases h6 : o = [62]
  · subst h6; simp; repeat' split
    all_goals simp_all
    all_goals omega
  simp [h1, h2, h3, h4, h5, h6, h7]
end Pure
end Go.Proofs.YtlkllccbcfhekaaDoor.Sift
