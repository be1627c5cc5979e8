/- Printed by a program of this seat's session: what the Go functions compute, and that they do. -/
import Derived.Test.YtlkllccbcfhekaaDoorSiftx0
import Derived.Test.YtlkllccbcfhekaaDoorSiftx4
import Derived.Test.YtlkllccbcfhekaaDoorXItoa
namespace Go.Proofs.YtlkllccbcfhekaaDoor.Sift
open Go.RowKit Go.Proofs.YtlkllccbcfhekaaDoorW.PrintWords Go.Proofs.YtlkllccbcfhekaaDoorW.PrintLast Go.Proofs.YtlkllccbcfhekaaDoorW.PrintMore
attribute [local go_sem] max2_int min2_int max_two min_two max_three min_three max_four min_four   -- for this text's walks alone
set_option linter.unusedVariables false
set_option linter.unusedSimpArgs false
set_option maxRecDepth 100000

/-! ### sift_printed: function 19 -/
mutual
def sift_printed.j0 : Nat → Int → ByteArray → Bool → ByteArray → ByteArray → Int → Int → List (S24) → Option (ByteArray)
  | 0, _, _, _, _, _, _, _, _ => none
  | k + 1, x1, x9, x21, x136000, x136001, x136002, x136003, x136004 => if x21 = true then (if 0 < (x136004.length : Int) then ((sift_rank.f x136000 x136001 x136002 x136003 x136004).bind fun t137 => ((sift_printed.f k ((rd_T24 x136004 0).f0) ((rd_T24 x136004 0).f1) ((rd_T24 x136004 0).f2) ((rd_T24 x136004 0).f3) ((rd_T24 x136004 0).f4) t137).bind fun t138 => (if t138.size + 1 ≤ 9223372036854775807 then (if (t138 ++ (⟨#[32]⟩ : ByteArray)).size + x136000.size ≤ 9223372036854775807 then (if ((t138 ++ (⟨#[32]⟩ : ByteArray)) ++ x136000).size + 1 ≤ 9223372036854775807 then (if 1 < (x136004.length : Int) then ((sift_rank.f x136000 x136001 x136002 x136003 x136004).bind fun t140 => ((sift_printed.f k ((rd_T24 x136004 1).f0) ((rd_T24 x136004 1).f1) ((rd_T24 x136004 1).f2) ((rd_T24 x136004 1).f3) ((rd_T24 x136004 1).f4) (wrap64 (t140 + 1))).bind fun t141 => (if (((t138 ++ (⟨#[32]⟩ : ByteArray)) ++ x136000) ++ (⟨#[32]⟩ : ByteArray)).size + t141.size ≤ 9223372036854775807 then ((sift_rank.f x136000 x136001 x136002 x136003 x136004).bind fun t142 => (if t142 < x1 then (if 1 + ((((t138 ++ (⟨#[32]⟩ : ByteArray)) ++ x136000) ++ (⟨#[32]⟩ : ByteArray)) ++ t141).size ≤ 9223372036854775807 then (if ((⟨#[40]⟩ : ByteArray) ++ ((((t138 ++ (⟨#[32]⟩ : ByteArray)) ++ x136000) ++ (⟨#[32]⟩ : ByteArray)) ++ t141)).size + 1 ≤ 9223372036854775807 then (some (((⟨#[40]⟩ : ByteArray) ++ ((((t138 ++ (⟨#[32]⟩ : ByteArray)) ++ x136000) ++ (⟨#[32]⟩ : ByteArray)) ++ t141)) ++ (⟨#[41]⟩ : ByteArray))) else (none)) else (none)) else (some ((((t138 ++ (⟨#[32]⟩ : ByteArray)) ++ x136000) ++ (⟨#[32]⟩ : ByteArray)) ++ t141)))) else (none)))) else (none)) else (none)) else (none)) else (none)))) else (none)) else (if x9.toList = ([110, 111, 116] : List UInt8) then (if 0 < (x136004.length : Int) then ((sift_printed.f k ((rd_T24 x136004 0).f0) ((rd_T24 x136004 0).f1) ((rd_T24 x136004 0).f2) ((rd_T24 x136004 0).f3) ((rd_T24 x136004 0).f4) 2).bind fun t144 => (if 4 + t144.size ≤ 9223372036854775807 then ((sift_rank.f x136000 x136001 x136002 x136003 x136004).bind fun t145 => (if t145 < x1 then (if 1 + ((⟨#[110, 111, 116, 32]⟩ : ByteArray) ++ t144).size ≤ 9223372036854775807 then (if ((⟨#[40]⟩ : ByteArray) ++ ((⟨#[110, 111, 116, 32]⟩ : ByteArray) ++ t144)).size + 1 ≤ 9223372036854775807 then (some (((⟨#[40]⟩ : ByteArray) ++ ((⟨#[110, 111, 116, 32]⟩ : ByteArray) ++ t144)) ++ (⟨#[41]⟩ : ByteArray))) else (none)) else (none)) else (some ((⟨#[110, 111, 116, 32]⟩ : ByteArray) ++ t144)))) else (none))) else (none)) else (if x9.toList = ([105, 110] : List UInt8) then ((addr_PrintPrefix.f k ((x136002) % 4294967296) x136003).bind fun bt146 => (if x136001.size + 4 ≤ 9223372036854775807 then (if (x136001 ++ (⟨#[32, 105, 110, 32]⟩ : ByteArray)).size + bt146.1.size ≤ 9223372036854775807 then ((sift_rank.f x136000 x136001 x136002 x136003 x136004).bind fun t148 => (if t148 < x1 then (if 1 + ((x136001 ++ (⟨#[32, 105, 110, 32]⟩ : ByteArray)) ++ bt146.1).size ≤ 9223372036854775807 then (if ((⟨#[40]⟩ : ByteArray) ++ ((x136001 ++ (⟨#[32, 105, 110, 32]⟩ : ByteArray)) ++ bt146.1)).size + 1 ≤ 9223372036854775807 then (some (((⟨#[40]⟩ : ByteArray) ++ ((x136001 ++ (⟨#[32, 105, 110, 32]⟩ : ByteArray)) ++ bt146.1)) ++ (⟨#[41]⟩ : ByteArray))) else (none)) else (none)) else (some ((x136001 ++ (⟨#[32, 105, 110, 32]⟩ : ByteArray)) ++ bt146.1)))) else (none)) else (none))) else (if x136001.size + 1 ≤ 9223372036854775807 then (if (x136001 ++ (⟨#[32]⟩ : ByteArray)).size + x136000.size ≤ 9223372036854775807 then (if ((x136001 ++ (⟨#[32]⟩ : ByteArray)) ++ x136000).size + 1 ≤ 9223372036854775807 then ((strconv_Itoa.f x136002).bind fun t149 => (if (((x136001 ++ (⟨#[32]⟩ : ByteArray)) ++ x136000) ++ (⟨#[32]⟩ : ByteArray)).size + t149.size ≤ 9223372036854775807 then ((sift_rank.f x136000 x136001 x136002 x136003 x136004).bind fun t150 => (if t150 < x1 then (if 1 + ((((x136001 ++ (⟨#[32]⟩ : ByteArray)) ++ x136000) ++ (⟨#[32]⟩ : ByteArray)) ++ t149).size ≤ 9223372036854775807 then (if ((⟨#[40]⟩ : ByteArray) ++ ((((x136001 ++ (⟨#[32]⟩ : ByteArray)) ++ x136000) ++ (⟨#[32]⟩ : ByteArray)) ++ t149)).size + 1 ≤ 9223372036854775807 then (some (((⟨#[40]⟩ : ByteArray) ++ ((((x136001 ++ (⟨#[32]⟩ : ByteArray)) ++ x136000) ++ (⟨#[32]⟩ : ByteArray)) ++ t149)) ++ (⟨#[41]⟩ : ByteArray))) else (none)) else (none)) else (some ((((x136001 ++ (⟨#[32]⟩ : ByteArray)) ++ x136000) ++ (⟨#[32]⟩ : ByteArray)) ++ t149)))) else (none))) else (none)) else (none)) else (none))))
def sift_printed.f : Nat → ByteArray → ByteArray → Int → Int → List (S24) → Int → Option (ByteArray)
  | 0, _, _, _, _, _, _ => none
  | k + 1, a0_0, a0_1, a0_2, a0_3, l0_4, a1 => if a0_0.toList = ([97, 110, 100] : List UInt8) then (sift_printed.j0 k a1 a0_0 (a0_0.toList == ([97, 110, 100] : List UInt8)) a0_0 a0_1 a0_2 a0_3 l0_4) else (sift_printed.j0 k a1 a0_0 (a0_0.toList == ([111, 114] : List UInt8)) a0_0 a0_1 a0_2 a0_3 l0_4)
end
theorem sift_printed.mono_l : ∀ k, (∀ y0 y1 y2 y3 y4 y5, LeO (sift_printed.f k y0 y1 y2 y3 y4 y5) (sift_printed.f (k + 1) y0 y1 y2 y3 y4 y5)) ∧ (∀ y0 y1 y2 y3 y4 y5 y6 y7, LeO (sift_printed.j0 k y0 y1 y2 y3 y4 y5 y6 y7) (sift_printed.j0 (k + 1) y0 y1 y2 y3 y4 y5 y6 y7))
  | 0 => ⟨fun _ _ _ _ _ _ r h => by simp [sift_printed.f] at h, fun _ _ _ _ _ _ _ _ r h => by simp [sift_printed.j0] at h⟩
  | k + 1 => by
    obtain ⟨ih0, ih1⟩ := sift_printed.mono_l k
    refine ⟨?_, ?_⟩
    · intro y0 y1 y2 y3 y4 y5
      unfold sift_printed.f
      repeat' first
      | (with_reducible exact ih0 _ _ _ _ _ _)
      | (with_reducible exact ih1 _ _ _ _ _ _ _ _)
      | (with_reducible exact addr_PrintPrefix.mono _ _ _)
      | (with_reducible exact LeO.refl _)
      | (with_reducible exact LeO.none _)
      | (with_reducible refine LeO.ite ?_ ?_)
      | (with_reducible refine LeO.bind ?_ (fun _ => ?_))
      | exact ih0 _ _ _ _ _ _
      | exact ih1 _ _ _ _ _ _ _ _
      | exact addr_PrintPrefix.mono _ _ _
      | exact LeO.none _
      | refine LeO.ite ?_ ?_
      | refine LeO.bind ?_ (fun _ => ?_)
    · intro y0 y1 y2 y3 y4 y5 y6 y7
      unfold sift_printed.j0
      repeat' first
      | (with_reducible exact ih0 _ _ _ _ _ _)
      | (with_reducible exact ih1 _ _ _ _ _ _ _ _)
      | (with_reducible exact addr_PrintPrefix.mono _ _ _)
      | (with_reducible exact LeO.refl _)
      | (with_reducible exact LeO.none _)
      | (with_reducible refine LeO.ite ?_ ?_)
      | (with_reducible refine LeO.bind ?_ (fun _ => ?_))
      | exact ih0 _ _ _ _ _ _
      | exact ih1 _ _ _ _ _ _ _ _
      | exact addr_PrintPrefix.mono _ _ _
      | exact LeO.none _
      | refine LeO.ite ?_ ?_
      | refine LeO.bind ?_ (fun _ => ?_)
theorem sift_printed.mono : ∀ a0 a1 a2 a3 a4 a5 k, LeO (sift_printed.f k a0 a1 a2 a3 a4 a5) (sift_printed.f (k + 1) a0 a1 a2 a3 a4 a5) := by
  intro a0 a1 a2 a3 a4 a5 k
  obtain ⟨ih0, ih1⟩ := sift_printed.mono_l k
  exact ih0 a0 a1 a2 a3 a4 a5
def sift_printed.T3 : Bool × List (List Nat × List Nat) := (true, [([], []), ([0], [0]), ([1], [1]), ([], []), ([3], [3]), ([2, 4], [2, 4]), ([5], [5]), ([], []), ([7], [7]), ([8], [8]), ([6, 9], [6, 9]), ([10, 9, 0, 1, 2, 3, 4, 5, 6, 7, 8, 9, 10], [10])])
def sift_printed.B3 : List Nat := [0, 1, 3, 0, 8, 31, 63, 0, 128, 384, 1023, 2047]
theorem sift_printed.tab3 : rtab .any (opsOf Tryd.f19 3) = sift_printed.T3 := by kernel_rfl
theorem sift_printed.bits3 : waitsOk sift_printed.T3.2 sift_printed.B3 = true := by kernel_rfl
def sift_printed.T6 : Bool × List (List Nat × List Nat) := (true, [([], []), ([0], [0]), ([1], [1]), ([2], [2]), ([], []), ([4], [4]), ([3, 5, 5], [3, 5]), ([6], [6]), ([], []), ([8], [8]), ([7, 9], [7, 9]), ([10], [10]), ([], []), ([12], [12]), ([13], [13]), ([14], [14]), ([], []), ([16, 6], [16]), ([17], [17]), ([15, 18, 17], [15, 18]), ([11, 19], [11, 19]), ([20, 19, 0, 1, 2, 3, 4, 5, 6, 7, 8, 9, 10, 11, 12, 13, 14, 15, 16, 17, 18, 19, 20], [20])])
def sift_printed.B6 : List Nat := [0, 1, 3, 7, 0, 16, 63, 127, 0, 256, 1023, 2047, 0, 4096, 12288, 28672, 0, 65663, 196735, 520319, 1048575, 2097151]
theorem sift_printed.tab6 : rtab .any (opsOf Tryd.f19 6) = sift_printed.T6 := by kernel_rfl
theorem sift_printed.bits6 : waitsOk sift_printed.T6.2 sift_printed.B6 = true := by kernel_rfl
set_option maxHeartbeats 8000000 in
set_option maxRecDepth 100000 in
theorem sift_printed.arm1 (k : Nat) (ih : ∀ (m_ : Nat), m_ < k + 1 → ∀ (a0_0 : ByteArray) (a0_1 : ByteArray) (a0_2 : Int) (a0_3 : Int) (A0_4 : Option Addr) (c0_4 : Nat) (l0_4 : List (S24)) (a1 : Int) (r : ByteArray) (w : World) (hP : Pows w) (hr0_4 : Kd.C k24 w A0_4 l0_4.length l0_4) (hc0_4 : l0_4.length ≤ c0_4) (h : sift_printed.f m_ a0_0 a0_1 a0_2 a0_3 l0_4 a1 = some r), Calls Tryd.prog 19 #[.agg #[.string a0_0, .string a0_1, .int .i64 a0_2, .int .i64 a0_3, .slice A0_4 l0_4.length c0_4], .int .i64 a1] w fun e w' => e = .returned (.string r) ∧ Below w.heap.size w w') : ∀ (a0_0 : ByteArray) (a0_1 : ByteArray) (a0_2 : Int) (a0_3 : Int) (A0_4 : Option Addr) (c0_4 : Nat) (l0_4 : List (S24)) (a1 : Int) (r : ByteArray) (w : World) (hP : Pows w) (hr0_4 : Kd.C k24 w A0_4 l0_4.length l0_4) (hc0_4 : l0_4.length ≤ c0_4) (h : sift_printed.f (k + 1) a0_0 a0_1 a0_2 a0_3 l0_4 a1 = some r),
    Calls Tryd.prog 19 #[.agg #[.string a0_0, .string a0_1, .int .i64 a0_2, .int .i64 a0_3, .slice A0_4 l0_4.length c0_4], .int .i64 a1] w fun e w' => e = .returned (.string r) ∧ Below w.heap.size w w' := by
  intro a0_0 a0_1 a0_2 a0_3 A0_4 c0_4 l0_4 a1 r w hP hr0_4 hc0_4 h
  simp only [sift_printed.f] at h
  have hu24 := Tryd.underlying24
  have hu78 := Tryd.underlying78
  have HR0_4 := Aside0.mk hr0_4
  have HC0_4 := Aside0.mk hc0_4
  clear hr0_4 hc0_4
  have HB := Aside0.mk (Below.refl w.heap.size w)
  have H : (if a0_0.toList = ([97, 110, 100] : List UInt8) then (sift_printed.j0 k a1 a0_0 (a0_0.toList == ([97, 110, 100] : List UInt8)) a0_0 a0_1 a0_2 a0_3 l0_4) else (sift_printed.j0 k a1 a0_0 (a0_0.toList == ([111, 114] : List UInt8)) a0_0 a0_1 a0_2 a0_3 l0_4)) = some r := h
  clear h
  have HC3 := Aside0.mk H
  clear H
  go_enter Tryd.func19, Tryd.ntmps19
  go_upto_if 21 with (first | ((with_reducible refine gate_dst (N := 2) rfl ?_); refine box_event ?hg (N := 2) ?hd (cs := #[.string a0_0, .string a0_1, .int .i64 a0_2, .int .i64 a0_3, .slice A0_4 l0_4.length c0_4]) (t := 24) ?hr ?_; (case hd => rfl); (case hg => rfl); (case hr => first | (go_simp; done) | (go_simp; rfl)); intro gb135 hg w4 hbox hb; have n0_ := Aside0.mk (below_step (by repeat (first | (with_reducible first | exact HB.out | apply below_alloc | apply pw_below_drewN | apply below_drew1) | exact HB.out)) hb); have n1_ := Aside0.mk (hbox); have n2_ := Aside0.mk ((by rw [hg]; exact (below_size (by repeat (first | (with_reducible first | exact HB.out | apply below_alloc | apply pw_below_drewN | apply below_drew1) | exact HB.out))) : w.heap.size ≤ gb135)); have n3_ := Aside0.mk ((by rw [hg]; exact (below_size (by repeat (first | (with_reducible first | exact HB.out | apply below_alloc | apply pw_below_drewN | apply below_drew1) | exact HB.out))) : w.heap.size ≤ gb135)); clear HB; have HB := n0_; have BK135 := n1_; have GW135 := n2_; have GE135 := n3_; clear n0_ n1_ n2_ n3_; clear hb hbox hg; have hcz5_0 : w4.cell? ⟨gb135, 0, none⟩ = some (.string a0_0) := (blk_cell BK135.out 0).trans rfl; have hcz5_1 : w4.cell? ⟨gb135, 1, none⟩ = some (.string a0_1) := (blk_cell BK135.out 1).trans rfl; have hcz5_2 : w4.cell? ⟨gb135, 2, none⟩ = some (.int .i64 a0_2) := (blk_cell BK135.out 2).trans rfl; have hcz5_3 : w4.cell? ⟨gb135, 3, none⟩ = some (.int .i64 a0_3) := (blk_cell BK135.out 3).trans rfl; have hcz5_4 : w4.cell? ⟨gb135, 4, none⟩ = some (.slice A0_4 l0_4.length c0_4) := (blk_cell BK135.out 4).trans rfl; have hfz5_0 := blk_frozen BK135.out 0; have hfz5_1 := blk_frozen BK135.out 1; have hfz5_2 := blk_frozen BK135.out 2; have hfz5_3 := blk_frozen BK135.out 3; have hfz5_4 := blk_frozen BK135.out 4))
  (try simp only [Act.put, List.setIfInBounds_toArray, List.set_cons_zero, List.set_cons_succ])
  go_cut [21] from 22 to 22 (fun v21 wc => ∃ (kq : Nat) (x21_2 : Bool), v21 = .bool x21_2 ∧ Aside0 (sift_printed.j0 kq a1 a0_0 x21_2 a0_0 a0_1 a0_2 a0_3 l0_4 = some r) ∧ Aside0 (kq ≤ k) ∧ Aside0 (wc.heap[gb135]? = some (.cells #[.string a0_0, .string a0_1, .int .i64 a0_2, .int .i64 a0_3, (.slice A0_4 l0_4.length c0_4)] 24 (0, 0))) ∧ Aside0 (Below w.heap.size w wc))
  case first =>
    have H := HC3.out
    clear HC3
    by_cases c6 : a0_0.toList = ([97, 110, 100] : List UInt8)
    · rw [if_pos c6] at H
      have c6b0 : (a0_0.toList == ([97, 110, 100] : List UInt8)) = true := beq_iff_eq.mpr c6
      have c6b1 : (a0_0.toList != ([97, 110, 100] : List UInt8)) = false := bne_eq_false_iff_eq.mpr c6
      clear c6
      (first | rw [c6b0] | (simp only [i64_w, i32_w]; rw [c6b0]) | skip)
      have H' := Aside0.mk H
      clear H
      go_wp2
      go_meet
      case rel => exact ⟨_, ((a0_0.toList == ([97, 110, 100] : List UInt8))), (by first | rfl | (simp; done) | (simp [*]; done)), (by first | exact H' | (subst_vars; exact H')), ⟨by first | omega | exact Nat.le_refl _⟩, ⟨by (with_reducible repeat (first | refine blk_drewN ?_ _ | refine blk_drew ?_ | refine blk_alloc ?_ _)); exact BK135.out⟩, ⟨by repeat (first | (with_reducible first | exact HB.out | apply below_alloc | apply pw_below_drewN | apply below_drew1 | refine below_set ?_ GE135.out) | exact HB.out)⟩⟩
    · rw [if_neg c6] at H
      have c6b0 : (a0_0.toList == ([97, 110, 100] : List UInt8)) = false := beq_eq_false_iff_ne.mpr c6
      have c6b1 : (a0_0.toList != ([97, 110, 100] : List UInt8)) = true := bne_iff_ne.mpr c6
      (first | rw [c6b0] | (simp only [i64_w, i32_w]; rw [c6b0]) | skip)
      have H' := Aside0.mk H
      clear H
      go_wp2
      go_meet
      case rel => exact ⟨_, ((a0_0.toList == ([111, 114] : List UInt8))), (by first | rfl | (simp; done) | (simp [*]; done)), (by first | exact H' | (subst_vars; exact H')), ⟨by first | omega | exact Nat.le_refl _⟩, ⟨by (with_reducible repeat (first | refine blk_drewN ?_ _ | refine blk_drew ?_ | refine blk_alloc ?_ _)); exact BK135.out⟩, ⟨by repeat (first | (with_reducible first | exact HB.out | apply below_alloc | apply pw_below_drewN | apply below_drew1 | refine below_set ?_ GE135.out) | exact HB.out)⟩⟩
  case rest =>
    clear HC3
    try clear c1
    try clear p2
    try clear c6
    try clear c6b0
    try clear c6b1
    try clear hcz5_0
    try clear hcz5_1
    try clear hcz5_2
    try clear hcz5_3
    try clear hcz5_4
    try clear hfz5_0
    try clear hfz5_1
    try clear hfz5_2
    try clear hfz5_3
    try clear hfz5_4
    obtain ⟨kq, x21_2, rfl, HA, HJ2, BK135, HB⟩ := hcut
    cases kq with
    | zero => exact absurd HA.out (by simp [sift_printed.j0])
    | succ kj2 =>
      have H := HA.out
      clear HA
      simp only [sift_printed.j0] at H
      by_cases c7 : x21_2 = true
      · subst c7
        have H1 : (if 0 < (l0_4.length : Int) then ((sift_rank.f a0_0 a0_1 a0_2 a0_3 l0_4).bind fun t137 => ((sift_printed.f kj2 ((rd_T24 l0_4 0).f0) ((rd_T24 l0_4 0).f1) ((rd_T24 l0_4 0).f2) ((rd_T24 l0_4 0).f3) ((rd_T24 l0_4 0).f4) t137).bind fun t138 => (if t138.size + 1 ≤ 9223372036854775807 then (if (t138 ++ (⟨#[32]⟩ : ByteArray)).size + a0_0.size ≤ 9223372036854775807 then (if ((t138 ++ (⟨#[32]⟩ : ByteArray)) ++ a0_0).size + 1 ≤ 9223372036854775807 then (if 1 < (l0_4.length : Int) then ((sift_rank.f a0_0 a0_1 a0_2 a0_3 l0_4).bind fun t140 => ((sift_printed.f kj2 ((rd_T24 l0_4 1).f0) ((rd_T24 l0_4 1).f1) ((rd_T24 l0_4 1).f2) ((rd_T24 l0_4 1).f3) ((rd_T24 l0_4 1).f4) (wrap64 (t140 + 1))).bind fun t141 => (if (((t138 ++ (⟨#[32]⟩ : ByteArray)) ++ a0_0) ++ (⟨#[32]⟩ : ByteArray)).size + t141.size ≤ 9223372036854775807 then ((sift_rank.f a0_0 a0_1 a0_2 a0_3 l0_4).bind fun t142 => (if t142 < a1 then (if 1 + ((((t138 ++ (⟨#[32]⟩ : ByteArray)) ++ a0_0) ++ (⟨#[32]⟩ : ByteArray)) ++ t141).size ≤ 9223372036854775807 then (if ((⟨#[40]⟩ : ByteArray) ++ ((((t138 ++ (⟨#[32]⟩ : ByteArray)) ++ a0_0) ++ (⟨#[32]⟩ : ByteArray)) ++ t141)).size + 1 ≤ 9223372036854775807 then (some (((⟨#[40]⟩ : ByteArray) ++ ((((t138 ++ (⟨#[32]⟩ : ByteArray)) ++ a0_0) ++ (⟨#[32]⟩ : ByteArray)) ++ t141)) ++ (⟨#[41]⟩ : ByteArray))) else (none)) else (none)) else (some ((((t138 ++ (⟨#[32]⟩ : ByteArray)) ++ a0_0) ++ (⟨#[32]⟩ : ByteArray)) ++ t141)))) else (none)))) else (none)) else (none)) else (none)) else (none)))) else (none)) = some r := by rw [if_pos rfl] at H; exact H
        clear H
        have H := H1
        clear H1
        by_cases c8 : 0 < (l0_4.length : Int)
        · rw [if_pos c8] at H
          have c8b0 : decide (0 < (l0_4.length : Int)) = true := decide_eq_true c8
          have c8b1 : decide (0 < l0_4.length) = true := decide_eq_true (by omega)
          clear c8
          replace H := Option.bind_eq_some_iff.mp H
          obtain ⟨t137, A90, H⟩ := H
          replace H : ((sift_printed.f kj2 ((rd_T24 l0_4 0).f0) ((rd_T24 l0_4 0).f1) ((rd_T24 l0_4 0).f2) ((rd_T24 l0_4 0).f3) ((rd_T24 l0_4 0).f4) t137).bind fun t138 => (if t138.size + 1 ≤ 9223372036854775807 then (if (t138 ++ (⟨#[32]⟩ : ByteArray)).size + a0_0.size ≤ 9223372036854775807 then (if ((t138 ++ (⟨#[32]⟩ : ByteArray)) ++ a0_0).size + 1 ≤ 9223372036854775807 then (if 1 < (l0_4.length : Int) then ((sift_rank.f a0_0 a0_1 a0_2 a0_3 l0_4).bind fun t140 => ((sift_printed.f kj2 ((rd_T24 l0_4 1).f0) ((rd_T24 l0_4 1).f1) ((rd_T24 l0_4 1).f2) ((rd_T24 l0_4 1).f3) ((rd_T24 l0_4 1).f4) (wrap64 (t140 + 1))).bind fun t141 => (if (((t138 ++ (⟨#[32]⟩ : ByteArray)) ++ a0_0) ++ (⟨#[32]⟩ : ByteArray)).size + t141.size ≤ 9223372036854775807 then ((sift_rank.f a0_0 a0_1 a0_2 a0_3 l0_4).bind fun t142 => (if t142 < a1 then (if 1 + ((((t138 ++ (⟨#[32]⟩ : ByteArray)) ++ a0_0) ++ (⟨#[32]⟩ : ByteArray)) ++ t141).size ≤ 9223372036854775807 then (if ((⟨#[40]⟩ : ByteArray) ++ ((((t138 ++ (⟨#[32]⟩ : ByteArray)) ++ a0_0) ++ (⟨#[32]⟩ : ByteArray)) ++ t141)).size + 1 ≤ 9223372036854775807 then (some (((⟨#[40]⟩ : ByteArray) ++ ((((t138 ++ (⟨#[32]⟩ : ByteArray)) ++ a0_0) ++ (⟨#[32]⟩ : ByteArray)) ++ t141)) ++ (⟨#[41]⟩ : ByteArray))) else (none)) else (none)) else (some ((((t138 ++ (⟨#[32]⟩ : ByteArray)) ++ a0_0) ++ (⟨#[32]⟩ : ByteArray)) ++ t141)))) else (none)))) else (none)) else (none)) else (none)) else (none))) = some r := H
          have A9 := Aside0.mk A90
          clear A90
          replace H := Option.bind_eq_some_iff.mp H
          obtain ⟨t138, A100, H⟩ := H
          replace H : (if t138.size + 1 ≤ 9223372036854775807 then (if (t138 ++ (⟨#[32]⟩ : ByteArray)).size + a0_0.size ≤ 9223372036854775807 then (if ((t138 ++ (⟨#[32]⟩ : ByteArray)) ++ a0_0).size + 1 ≤ 9223372036854775807 then (if 1 < (l0_4.length : Int) then ((sift_rank.f a0_0 a0_1 a0_2 a0_3 l0_4).bind fun t140 => ((sift_printed.f kj2 ((rd_T24 l0_4 1).f0) ((rd_T24 l0_4 1).f1) ((rd_T24 l0_4 1).f2) ((rd_T24 l0_4 1).f3) ((rd_T24 l0_4 1).f4) (wrap64 (t140 + 1))).bind fun t141 => (if (((t138 ++ (⟨#[32]⟩ : ByteArray)) ++ a0_0) ++ (⟨#[32]⟩ : ByteArray)).size + t141.size ≤ 9223372036854775807 then ((sift_rank.f a0_0 a0_1 a0_2 a0_3 l0_4).bind fun t142 => (if t142 < a1 then (if 1 + ((((t138 ++ (⟨#[32]⟩ : ByteArray)) ++ a0_0) ++ (⟨#[32]⟩ : ByteArray)) ++ t141).size ≤ 9223372036854775807 then (if ((⟨#[40]⟩ : ByteArray) ++ ((((t138 ++ (⟨#[32]⟩ : ByteArray)) ++ a0_0) ++ (⟨#[32]⟩ : ByteArray)) ++ t141)).size + 1 ≤ 9223372036854775807 then (some (((⟨#[40]⟩ : ByteArray) ++ ((((t138 ++ (⟨#[32]⟩ : ByteArray)) ++ a0_0) ++ (⟨#[32]⟩ : ByteArray)) ++ t141)) ++ (⟨#[41]⟩ : ByteArray))) else (none)) else (none)) else (some ((((t138 ++ (⟨#[32]⟩ : ByteArray)) ++ a0_0) ++ (⟨#[32]⟩ : ByteArray)) ++ t141)))) else (none)))) else (none)) else (none)) else (none)) else (none)) = some r := H
          have A10 := Aside0.mk A100
          clear A100
          by_cases c11 : t138.size + 1 ≤ 9223372036854775807
          · rw [if_pos c11] at H
            have c11b0 := eq_true c11
            have c11b1 : decide (t138.size + 1 ≤ 9223372036854775807) = true := decide_eq_true c11
            try have c11b2 : (9223372036854775807 < t138.size + 1) = False := eq_false (Nat.not_lt.2 c11)
            by_cases c12 : (t138 ++ (⟨#[32]⟩ : ByteArray)).size + a0_0.size ≤ 9223372036854775807
            · rw [if_pos c12] at H
              have c12b0 := eq_true c12
              have c12b1 : decide ((t138 ++ (⟨#[32]⟩ : ByteArray)).size + a0_0.size ≤ 9223372036854775807) = true := decide_eq_true c12
              try have c12b2 : (9223372036854775807 < (t138 ++ (⟨#[32]⟩ : ByteArray)).size + a0_0.size) = False := eq_false (Nat.not_lt.2 c12)
              try (have c12b4 := c12b2; simp only [ByteArray.size_append, show (⟨#[32]⟩ : ByteArray).size = 1 from rfl] at c12b4)
              try (have c12b5 := c12b2; simp only [ByteArray.size_append, show (⟨#[32]⟩ : ByteArray).size = 1 from rfl, Nat.add_assoc, Nat.reduceAdd] at c12b5)
              try (have c12b3 := c12b2; simp only [ByteArray.size_append] at c12b3)
              by_cases c13 : ((t138 ++ (⟨#[32]⟩ : ByteArray)) ++ a0_0).size + 1 ≤ 9223372036854775807
              · rw [if_pos c13] at H
                have c13b0 := eq_true c13
                have c13b1 : decide (((t138 ++ (⟨#[32]⟩ : ByteArray)) ++ a0_0).size + 1 ≤ 9223372036854775807) = true := decide_eq_true c13
                try have c13b2 : (9223372036854775807 < ((t138 ++ (⟨#[32]⟩ : ByteArray)) ++ a0_0).size + 1) = False := eq_false (Nat.not_lt.2 c13)
                try (have c13b4 := c13b2; simp only [ByteArray.size_append, show (⟨#[32]⟩ : ByteArray).size = 1 from rfl] at c13b4)
                try (have c13b5 := c13b2; simp only [ByteArray.size_append, show (⟨#[32]⟩ : ByteArray).size = 1 from rfl, Nat.add_assoc, Nat.reduceAdd] at c13b5)
                try (have c13b3 := c13b2; simp only [ByteArray.size_append] at c13b3)
                by_cases c14 : 1 < (l0_4.length : Int)
                · rw [if_pos c14] at H
                  have c14b0 : decide (1 < (l0_4.length : Int)) = true := decide_eq_true c14
                  have c14b1 : decide (1 < l0_4.length) = true := decide_eq_true (by omega)
                  clear c14
                  replace H := Option.bind_eq_some_iff.mp H
                  obtain ⟨t140, A150, H⟩ := H
                  replace H : ((sift_printed.f kj2 ((rd_T24 l0_4 1).f0) ((rd_T24 l0_4 1).f1) ((rd_T24 l0_4 1).f2) ((rd_T24 l0_4 1).f3) ((rd_T24 l0_4 1).f4) (wrap64 (t140 + 1))).bind fun t141 => (if (((t138 ++ (⟨#[32]⟩ : ByteArray)) ++ a0_0) ++ (⟨#[32]⟩ : ByteArray)).size + t141.size ≤ 9223372036854775807 then ((sift_rank.f a0_0 a0_1 a0_2 a0_3 l0_4).bind fun t142 => (if t142 < a1 then (if 1 + ((((t138 ++ (⟨#[32]⟩ : ByteArray)) ++ a0_0) ++ (⟨#[32]⟩ : ByteArray)) ++ t141).size ≤ 9223372036854775807 then (if ((⟨#[40]⟩ : ByteArray) ++ ((((t138 ++ (⟨#[32]⟩ : ByteArray)) ++ a0_0) ++ (⟨#[32]⟩ : ByteArray)) ++ t141)).size + 1 ≤ 9223372036854775807 then (some (((⟨#[40]⟩ : ByteArray) ++ ((((t138 ++ (⟨#[32]⟩ : ByteArray)) ++ a0_0) ++ (⟨#[32]⟩ : ByteArray)) ++ t141)) ++ (⟨#[41]⟩ : ByteArray))) else (none)) else (none)) else (some ((((t138 ++ (⟨#[32]⟩ : ByteArray)) ++ a0_0) ++ (⟨#[32]⟩ : ByteArray)) ++ t141)))) else (none))) = some r := H
                  have A15 := Aside0.mk A150
                  clear A150
                  replace H := Option.bind_eq_some_iff.mp H
                  obtain ⟨t141, A160, H⟩ := H
                  replace H : (if (((t138 ++ (⟨#[32]⟩ : ByteArray)) ++ a0_0) ++ (⟨#[32]⟩ : ByteArray)).size + t141.size ≤ 9223372036854775807 then ((sift_rank.f a0_0 a0_1 a0_2 a0_3 l0_4).bind fun t142 => (if t142 < a1 then (if 1 + ((((t138 ++ (⟨#[32]⟩ : ByteArray)) ++ a0_0) ++ (⟨#[32]⟩ : ByteArray)) ++ t141).size ≤ 9223372036854775807 then (if ((⟨#[40]⟩ : ByteArray) ++ ((((t138 ++ (⟨#[32]⟩ : ByteArray)) ++ a0_0) ++ (⟨#[32]⟩ : ByteArray)) ++ t141)).size + 1 ≤ 9223372036854775807 then (some (((⟨#[40]⟩ : ByteArray) ++ ((((t138 ++ (⟨#[32]⟩ : ByteArray)) ++ a0_0) ++ (⟨#[32]⟩ : ByteArray)) ++ t141)) ++ (⟨#[41]⟩ : ByteArray))) else (none)) else (none)) else (some ((((t138 ++ (⟨#[32]⟩ : ByteArray)) ++ a0_0) ++ (⟨#[32]⟩ : ByteArray)) ++ t141)))) else (none)) = some r := H
                  have A16 := Aside0.mk A160
                  clear A160
                  by_cases c17 : (((t138 ++ (⟨#[32]⟩ : ByteArray)) ++ a0_0) ++ (⟨#[32]⟩ : ByteArray)).size + t141.size ≤ 9223372036854775807
                  · rw [if_pos c17] at H
                    have c17b0 := eq_true c17
                    have c17b1 : decide ((((t138 ++ (⟨#[32]⟩ : ByteArray)) ++ a0_0) ++ (⟨#[32]⟩ : ByteArray)).size + t141.size ≤ 9223372036854775807) = true := decide_eq_true c17
                    try have c17b2 : (9223372036854775807 < (((t138 ++ (⟨#[32]⟩ : ByteArray)) ++ a0_0) ++ (⟨#[32]⟩ : ByteArray)).size + t141.size) = False := eq_false (Nat.not_lt.2 c17)
                    try (have c17b4 := c17b2; simp only [ByteArray.size_append, show (⟨#[32]⟩ : ByteArray).size = 1 from rfl] at c17b4)
                    try (have c17b5 := c17b2; simp only [ByteArray.size_append, show (⟨#[32]⟩ : ByteArray).size = 1 from rfl, Nat.add_assoc, Nat.reduceAdd] at c17b5)
                    try (have c17b3 := c17b2; simp only [ByteArray.size_append] at c17b3)
                    replace H := Option.bind_eq_some_iff.mp H
                    obtain ⟨t142, A180, H⟩ := H
                    replace H : (if t142 < a1 then (if 1 + ((((t138 ++ (⟨#[32]⟩ : ByteArray)) ++ a0_0) ++ (⟨#[32]⟩ : ByteArray)) ++ t141).size ≤ 9223372036854775807 then (if ((⟨#[40]⟩ : ByteArray) ++ ((((t138 ++ (⟨#[32]⟩ : ByteArray)) ++ a0_0) ++ (⟨#[32]⟩ : ByteArray)) ++ t141)).size + 1 ≤ 9223372036854775807 then (some (((⟨#[40]⟩ : ByteArray) ++ ((((t138 ++ (⟨#[32]⟩ : ByteArray)) ++ a0_0) ++ (⟨#[32]⟩ : ByteArray)) ++ t141)) ++ (⟨#[41]⟩ : ByteArray))) else (none)) else (none)) else (some ((((t138 ++ (⟨#[32]⟩ : ByteArray)) ++ a0_0) ++ (⟨#[32]⟩ : ByteArray)) ++ t141))) = some r := H
                    have A18 := Aside0.mk A180
                    clear A180
                    by_cases c19 : t142 < a1
                    · rw [if_pos c19] at H
                      have c19b0 : decide (t142 < a1) = true := decide_eq_true c19
                      clear c19
                      by_cases c20 : 1 + ((((t138 ++ (⟨#[32]⟩ : ByteArray)) ++ a0_0) ++ (⟨#[32]⟩ : ByteArray)) ++ t141).size ≤ 9223372036854775807
                      · rw [if_pos c20] at H
                        have c20b0 := eq_true c20
                        have c20b1 : decide (1 + ((((t138 ++ (⟨#[32]⟩ : ByteArray)) ++ a0_0) ++ (⟨#[32]⟩ : ByteArray)) ++ t141).size ≤ 9223372036854775807) = true := decide_eq_true c20
                        try have c20b2 : (9223372036854775807 < 1 + ((((t138 ++ (⟨#[32]⟩ : ByteArray)) ++ a0_0) ++ (⟨#[32]⟩ : ByteArray)) ++ t141).size) = False := eq_false (Nat.not_lt.2 c20)
                        try (have c20b4 := c20b2; simp only [ByteArray.size_append, show (⟨#[32]⟩ : ByteArray).size = 1 from rfl] at c20b4)
                        try (have c20b5 := c20b2; simp only [ByteArray.size_append, show (⟨#[32]⟩ : ByteArray).size = 1 from rfl, Nat.add_assoc, Nat.reduceAdd] at c20b5)
                        try (have c20b3 := c20b2; simp only [ByteArray.size_append] at c20b3)
                        by_cases c21 : ((⟨#[40]⟩ : ByteArray) ++ ((((t138 ++ (⟨#[32]⟩ : ByteArray)) ++ a0_0) ++ (⟨#[32]⟩ : ByteArray)) ++ t141)).size + 1 ≤ 9223372036854775807
                        · rw [if_pos c21] at H
                          have c21b0 := eq_true c21
                          have c21b1 : decide (((⟨#[40]⟩ : ByteArray) ++ ((((t138 ++ (⟨#[32]⟩ : ByteArray)) ++ a0_0) ++ (⟨#[32]⟩ : ByteArray)) ++ t141)).size + 1 ≤ 9223372036854775807) = true := decide_eq_true c21
                          try have c21b2 : (9223372036854775807 < ((⟨#[40]⟩ : ByteArray) ++ ((((t138 ++ (⟨#[32]⟩ : ByteArray)) ++ a0_0) ++ (⟨#[32]⟩ : ByteArray)) ++ t141)).size + 1) = False := eq_false (Nat.not_lt.2 c21)
                          try (have c21b4 := c21b2; simp only [ByteArray.size_append, show (⟨#[32]⟩ : ByteArray).size = 1 from rfl, show (⟨#[40]⟩ : ByteArray).size = 1 from rfl] at c21b4)
                          try (have c21b5 := c21b2; simp only [ByteArray.size_append, show (⟨#[32]⟩ : ByteArray).size = 1 from rfl, show (⟨#[40]⟩ : ByteArray).size = 1 from rfl, Nat.add_assoc, Nat.reduceAdd] at c21b5)
                          try (have c21b3 := c21b2; simp only [ByteArray.size_append] at c21b3)
                          obtain rfl := Option.some.inj H
                          try go_wp2
                          have n0_ := Aside0.mk (blk_drew BK135.out)
                          have n1_ := Aside0.mk (below_drew1 HB.out)
                          clear BK135
                          clear HB
                          have BK135 := n0_
                          have HB := n1_
                          clear n0_ n1_
                          have p136 : 0 ≤ (0 : Int) := (by omega)
                          have q136 : 0 < (l0_4.length : Int) := of_decide_eq_true (by first | (with_reducible assumption) | assumption)
                          obtain ⟨ad136, A136_4, c136_4, e136, hx136_0, hx136_1, hx136_2, hx136_3, hx136_4, hl136_4, hi136_4⟩ := at_T24 HR0_4.out 0 p136 q136
                          have hw136_4 := hx136_4
                          (try rw [show ((0 : Int)).toNat = 0 from rfl] at hw136_4)
                          (try rw [show 0 * 5 = 0 from rfl] at hw136_4)
                          (try rw [Addr.add_zero'] at hw136_4)
                          have hw136_3 := hx136_3
                          (try rw [show ((0 : Int)).toNat = 0 from rfl] at hw136_3)
                          (try rw [show 0 * 5 = 0 from rfl] at hw136_3)
                          (try rw [Addr.add_zero'] at hw136_3)
                          have hw136_2 := hx136_2
                          (try rw [show ((0 : Int)).toNat = 0 from rfl] at hw136_2)
                          (try rw [show 0 * 5 = 0 from rfl] at hw136_2)
                          (try rw [Addr.add_zero'] at hw136_2)
                          have hw136_1 := hx136_1
                          (try rw [show ((0 : Int)).toNat = 0 from rfl] at hw136_1)
                          (try rw [show 0 * 5 = 0 from rfl] at hw136_1)
                          (try rw [Addr.add_zero'] at hw136_1)
                          have hw136_0 := hx136_0
                          (try rw [show ((0 : Int)).toNat = 0 from rfl] at hw136_0)
                          (try rw [show 0 * 5 = 0 from rfl] at hw136_0)
                          (try rw [Addr.add_zero'] at hw136_0)
                          cases e136
                          have qi136 : (0 < l0_4.length) = True := eq_true (by omega)
                          (try rw [show ((0 : Int)).toNat = 0 from rfl] at hx136_0)
                          (try rw [show 0 * 5 = 0 from rfl] at hx136_0)
                          (try rw [Addr.add_zero'] at hx136_0)
                          (try rw [show ((0 : Int)).toNat = 0 from rfl] at hx136_1)
                          (try rw [show 0 * 5 = 0 from rfl] at hx136_1)
                          (try rw [Addr.add_zero'] at hx136_1)
                          (try rw [show ((0 : Int)).toNat = 0 from rfl] at hx136_2)
                          (try rw [show 0 * 5 = 0 from rfl] at hx136_2)
                          (try rw [Addr.add_zero'] at hx136_2)
                          (try rw [show ((0 : Int)).toNat = 0 from rfl] at hx136_3)
                          (try rw [show 0 * 5 = 0 from rfl] at hx136_3)
                          (try rw [Addr.add_zero'] at hx136_3)
                          (try rw [show ((0 : Int)).toNat = 0 from rfl] at hx136_4)
                          (try rw [show 0 * 5 = 0 from rfl] at hx136_4)
                          (try rw [Addr.add_zero'] at hx136_4)
                          replace hx136_0 := (HB.out.cell (World.block_lt_of_cell? w _ hx136_0)).trans hx136_0
                          replace hx136_1 := (HB.out.cell (World.block_lt_of_cell? w _ hx136_1)).trans hx136_1
                          replace hx136_2 := (HB.out.cell (World.block_lt_of_cell? w _ hx136_2)).trans hx136_2
                          replace hx136_3 := (HB.out.cell (World.block_lt_of_cell? w _ hx136_3)).trans hx136_3
                          replace hx136_4 := (HB.out.cell (World.block_lt_of_cell? w _ hx136_4)).trans hx136_4
                          have HR136_4 := Aside0.mk hi136_4
                          have HC136_4 := Aside0.mk hl136_4
                          clear hi136_4 hl136_4
                          replace p136 := eq_true p136
                          replace q136 := eq_true q136
                          have p139 : 0 ≤ (1 : Int) := (by omega)
                          have q139 : 1 < (l0_4.length : Int) := of_decide_eq_true (by first | (with_reducible assumption) | assumption)
                          obtain ⟨ad139, A139_4, c139_4, e139, hx139_0, hx139_1, hx139_2, hx139_3, hx139_4, hl139_4, hi139_4⟩ := at_T24 HR0_4.out 1 p139 q139
                          have hw139_4 := hx139_4
                          (try rw [show ((1 : Int)).toNat = 1 from rfl] at hw139_4)
                          (try rw [show 1 * 5 = 5 from rfl] at hw139_4)
                          (try simp only [Nat.reduceMul, Nat.reduceEqDiff, Go.Addr.add, ↓reduceIte] at hw139_4)
                          have hw139_3 := hx139_3
                          (try rw [show ((1 : Int)).toNat = 1 from rfl] at hw139_3)
                          (try rw [show 1 * 5 = 5 from rfl] at hw139_3)
                          (try simp only [Nat.reduceMul, Nat.reduceEqDiff, Go.Addr.add, ↓reduceIte] at hw139_3)
                          have hw139_2 := hx139_2
                          (try rw [show ((1 : Int)).toNat = 1 from rfl] at hw139_2)
                          (try rw [show 1 * 5 = 5 from rfl] at hw139_2)
                          (try simp only [Nat.reduceMul, Nat.reduceEqDiff, Go.Addr.add, ↓reduceIte] at hw139_2)
                          have hw139_1 := hx139_1
                          (try rw [show ((1 : Int)).toNat = 1 from rfl] at hw139_1)
                          (try rw [show 1 * 5 = 5 from rfl] at hw139_1)
                          (try simp only [Nat.reduceMul, Nat.reduceEqDiff, Go.Addr.add, ↓reduceIte] at hw139_1)
                          have hw139_0 := hx139_0
                          (try rw [show ((1 : Int)).toNat = 1 from rfl] at hw139_0)
                          (try rw [show 1 * 5 = 5 from rfl] at hw139_0)
                          (try simp only [Nat.reduceMul, Nat.reduceEqDiff, Go.Addr.add, ↓reduceIte] at hw139_0)
                          obtain rfl : ad136 = ad139 := (by injection e139)
                          (try simp only [show (1 : Int).toNat = 1 from rfl, Nat.reduceMul, Nat.reduceEqDiff, Go.Addr.add, ↓reduceIte] at hx139_0)
                          (try simp only [show (1 : Int).toNat = 1 from rfl, Nat.reduceMul, Nat.reduceEqDiff, Go.Addr.add, ↓reduceIte] at hx139_1)
                          (try simp only [show (1 : Int).toNat = 1 from rfl, Nat.reduceMul, Nat.reduceEqDiff, Go.Addr.add, ↓reduceIte] at hx139_2)
                          (try simp only [show (1 : Int).toNat = 1 from rfl, Nat.reduceMul, Nat.reduceEqDiff, Go.Addr.add, ↓reduceIte] at hx139_3)
                          (try simp only [show (1 : Int).toNat = 1 from rfl, Nat.reduceMul, Nat.reduceEqDiff, Go.Addr.add, ↓reduceIte] at hx139_4)
                          have qi139 : (1 < l0_4.length) = True := eq_true (by omega)
                          (try rw [show ((1 : Int)).toNat = 1 from rfl] at hx139_0)
                          (try rw [show 1 * 5 = 5 from rfl] at hx139_0)
                          (try rw [show ((1 : Int)).toNat = 1 from rfl] at hx139_1)
                          (try rw [show 1 * 5 = 5 from rfl] at hx139_1)
                          (try rw [show ((1 : Int)).toNat = 1 from rfl] at hx139_2)
                          (try rw [show 1 * 5 = 5 from rfl] at hx139_2)
                          (try rw [show ((1 : Int)).toNat = 1 from rfl] at hx139_3)
                          (try rw [show 1 * 5 = 5 from rfl] at hx139_3)
                          (try rw [show ((1 : Int)).toNat = 1 from rfl] at hx139_4)
                          (try rw [show 1 * 5 = 5 from rfl] at hx139_4)
                          replace hx139_0 := (HB.out.cell (World.block_lt_of_cell? w _ hx139_0)).trans hx139_0
                          replace hx139_1 := (HB.out.cell (World.block_lt_of_cell? w _ hx139_1)).trans hx139_1
                          replace hx139_2 := (HB.out.cell (World.block_lt_of_cell? w _ hx139_2)).trans hx139_2
                          replace hx139_3 := (HB.out.cell (World.block_lt_of_cell? w _ hx139_3)).trans hx139_3
                          replace hx139_4 := (HB.out.cell (World.block_lt_of_cell? w _ hx139_4)).trans hx139_4
                          have HR139_4 := Aside0.mk hi139_4
                          have HC139_4 := Aside0.mk hl139_4
                          clear hi139_4 hl139_4
                          replace p139 := eq_true p139
                          replace q139 := eq_true q139
                          refine start_ (n := 22) (S := fun w' => w'.cell? ⟨gb135, 0, none⟩ = some (.string a0_0) ∧ w'.cell? ⟨gb135, 1, none⟩ = some (.string a0_1) ∧ w'.cell? ⟨gb135, 2, none⟩ = some (.int .i64 a0_2) ∧ w'.cell? ⟨gb135, 3, none⟩ = some (.int .i64 a0_3) ∧ w'.cell? ⟨gb135, 4, none⟩ = some (.slice (some ad136) l0_4.length c0_4) ∧ w'.cell? ad136 = some (.string ((rd_T24 l0_4 0).f0)) ∧ w'.cell? ⟨ad136.block, ad136.off + 1, none⟩ = some (.string ((rd_T24 l0_4 0).f1)) ∧ w'.cell? ⟨ad136.block, ad136.off + 2, none⟩ = some (.int .i64 ((rd_T24 l0_4 0).f2)) ∧ w'.cell? ⟨ad136.block, ad136.off + 3, none⟩ = some (.int .i64 ((rd_T24 l0_4 0).f3)) ∧ w'.cell? ⟨ad136.block, ad136.off + 4, none⟩ = some (.slice A136_4 ((rd_T24 l0_4 0).f4).length c136_4) ∧ w'.cell? ⟨ad136.block, ad136.off + 5, none⟩ = some (.string ((rd_T24 l0_4 1).f0)) ∧ w'.cell? ⟨ad136.block, ad136.off + 5 + 1, none⟩ = some (.string ((rd_T24 l0_4 1).f1)) ∧ w'.cell? ⟨ad136.block, ad136.off + 5 + 2, none⟩ = some (.int .i64 ((rd_T24 l0_4 1).f2)) ∧ w'.cell? ⟨ad136.block, ad136.off + 5 + 3, none⟩ = some (.int .i64 ((rd_T24 l0_4 1).f3)) ∧ w'.cell? ⟨ad136.block, ad136.off + 5 + 4, none⟩ = some (.slice A139_4 ((rd_T24 l0_4 1).f4).length c139_4)) (ds := []) #[false, false, false, false, false, false, false, false, false, false, false, false, false, false, false, false, false, false, false, false, false, false] (by kernel_rfl) rfl rfl ⟨(blk_cell BK135.out 0).trans rfl, (blk_cell BK135.out 1).trans rfl, (blk_cell BK135.out 2).trans rfl, (blk_cell BK135.out 3).trans rfl, (blk_cell BK135.out 4).trans rfl, ((HB.out.cell (World.block_lt_of_cell? w _ hw136_0)).trans hw136_0), ((HB.out.cell (World.block_lt_of_cell? w _ hw136_1)).trans hw136_1), ((HB.out.cell (World.block_lt_of_cell? w _ hw136_2)).trans hw136_2), ((HB.out.cell (World.block_lt_of_cell? w _ hw136_3)).trans hw136_3), ((HB.out.cell (World.block_lt_of_cell? w _ hw136_4)).trans hw136_4), ((HB.out.cell (World.block_lt_of_cell? w _ hw139_0)).trans hw139_0), ((HB.out.cell (World.block_lt_of_cell? w _ hw139_1)).trans hw139_1), ((HB.out.cell (World.block_lt_of_cell? w _ hw139_2)).trans hw139_2), ((HB.out.cell (World.block_lt_of_cell? w _ hw139_3)).trans hw139_3), ((HB.out.cell (World.block_lt_of_cell? w _ hw139_4)).trans hw139_4)⟩ (fun hHeld => ?_); refine with_tabW sift_printed.tab6 sift_printed.bits6 (fun HT_ HW_ => ?_)
                          generalize wc.drew = w22 at BK135 HB HR136_4 HR139_4 hx136_0 hx136_1 hx136_2 hx136_3 hx136_4 hx139_0 hx139_1 hx139_2 hx139_3 hx139_4 hHeld ⊢
                          refine pure_ (i := 0) (N := some 24) (v := ?_) (a' := ?_) #[true, false, false, false, false, false, false, false, false, false, false, false, false, false, false, false, false, false, false, false, false, false] rfl rfl (any_of HT_.out (by kernel_rfl)) (fun _ _ _ h => h) (Or.inl ⟨by rfl, ?_⟩) ?_ ?_
                          rotate_left
                          · intro w'
                            go_simp
                            with_reducible rfl
                          rotate_left
                          · simp only [Act.put, List.setIfInBounds_toArray, List.set_cons_zero, List.set_cons_succ, i64_w, i32_w]
                            rfl
                          refine pure_ (i := 8) (N := some 32) (v := ?_) (a' := ?_) #[true, false, false, false, false, false, false, false, true, false, false, false, false, false, false, false, false, false, false, false, false, false] rfl rfl (any_of HT_.out (by kernel_rfl)) (fun _ _ _ h => h) (Or.inl ⟨by rfl, ?_⟩) ?_ ?_
                          rotate_left
                          · intro w'
                            go_simp
                            with_reducible rfl
                          rotate_left
                          · simp only [Act.put, List.setIfInBounds_toArray, List.set_cons_zero, List.set_cons_succ, i64_w, i32_w]
                            rfl
                          refine pure_ (i := 12) (N := some 36) (v := ?_) (a' := ?_) #[true, false, false, false, false, false, false, false, true, false, false, false, true, false, false, false, false, false, false, false, false, false] rfl rfl (any_of HT_.out (by kernel_rfl)) (fun _ _ _ h => h) (Or.inl ⟨by rfl, ?_⟩) ?_ ?_
                          rotate_left
                          · intro w'
                            go_simp
                            with_reducible rfl
                          rotate_left
                          · simp only [Act.put, List.setIfInBounds_toArray, List.set_cons_zero, List.set_cons_succ, i64_w, i32_w]
                            rfl
                          refine take_ (i := 1) (N := some 25) (v := ?_) (a' := ?_) #[true, true, false, false, false, false, false, false, true, false, false, false, true, false, false, false, false, false, false, false, false, false] rfl rfl (take_ofW HT_.out HW_.out (by kernel_rfl)) (fun _ _ _ h => h) (Or.inl ⟨by rfl, ?_⟩) hHeld ?_ ?_
                          rotate_left
                          · rintro w' ⟨s0, s1, s2, s3, s4, s5, s6, s7, s8, s9, s10, s11, s12, s13, s14⟩
                            go_simp
                            with_reducible rfl
                          rotate_left
                          · simp only [Act.put, List.setIfInBounds_toArray, List.set_cons_zero, List.set_cons_succ, i64_w, i32_w]
                            rfl
                          refine pure_ (i := 2) (N := some 26) (v := ?_) (a' := ?_) #[true, true, true, false, false, false, false, false, true, false, false, false, true, false, false, false, false, false, false, false, false, false] rfl rfl (any_of HT_.out (by kernel_rfl)) (fun _ _ _ h => h) (Or.inl ⟨by rfl, ?_⟩) ?_ ?_
                          rotate_left
                          · intro w'
                            go_simp
                            with_reducible rfl
                          rotate_left
                          · simp only [Act.put, List.setIfInBounds_toArray, List.set_cons_zero, List.set_cons_succ, i64_w, i32_w]
                            rfl
                          refine take_ (i := 3) (N := some 27) (v := ?_) (a' := ?_) #[true, true, true, true, false, false, false, false, true, false, false, false, true, false, false, false, false, false, false, false, false, false] rfl rfl (take_ofW HT_.out HW_.out (by kernel_rfl)) (fun _ _ _ h => h) (Or.inl ⟨by rfl, ?_⟩) hHeld ?_ ?_
                          rotate_left
                          · rintro w' ⟨s0, s1, s2, s3, s4, s5, s6, s7, s8, s9, s10, s11, s12, s13, s14⟩
                            go_simp
                            with_reducible rfl
                          rotate_left
                          · simp only [Act.put, List.setIfInBounds_toArray, List.set_cons_zero, List.set_cons_succ, i64_w, i32_w]
                            rfl
                          refine take_ (i := 4) (N := some 28) (v := ?_) (a' := ?_) #[true, true, true, true, true, false, false, false, true, false, false, false, true, false, false, false, false, false, false, false, false, false] rfl rfl (take_ofW HT_.out HW_.out (by kernel_rfl)) (fun _ _ _ h => h) (Or.inl ⟨by rfl, ?_⟩) hHeld ?_ ?_
                          rotate_left
                          · rintro w' ⟨s0, s1, s2, s3, s4, s5, s6, s7, s8, s9, s10, s11, s12, s13, s14⟩
                            go_simp
                            with_reducible rfl
                          rotate_left
                          · simp only [Act.put, List.setIfInBounds_toArray, List.set_cons_zero, List.set_cons_succ, i64_w, i32_w]
                            rfl
                          refine take_ (i := 9) (N := some 33) (v := ?_) (a' := ?_) #[true, true, true, true, true, false, false, false, true, true, false, false, true, false, false, false, false, false, false, false, false, false] rfl rfl (take_ofW HT_.out HW_.out (by kernel_rfl)) (fun _ _ _ h => h) (Or.inl ⟨by rfl, ?_⟩) hHeld ?_ ?_
                          rotate_left
                          · rintro w' ⟨s0, s1, s2, s3, s4, s5, s6, s7, s8, s9, s10, s11, s12, s13, s14⟩
                            go_simp
                            with_reducible rfl
                          rotate_left
                          · simp only [Act.put, List.setIfInBounds_toArray, List.set_cons_zero, List.set_cons_succ, i64_w, i32_w]
                            rfl
                          refine take_ (i := 13) (N := some 37) (v := ?_) (a' := ?_) #[true, true, true, true, true, false, false, false, true, true, false, false, true, true, false, false, false, false, false, false, false, false] rfl rfl (take_ofW HT_.out HW_.out (by kernel_rfl)) (fun _ _ _ h => h) (Or.inl ⟨by rfl, ?_⟩) hHeld ?_ ?_
                          rotate_left
                          · rintro w' ⟨s0, s1, s2, s3, s4, s5, s6, s7, s8, s9, s10, s11, s12, s13, s14⟩
                            go_simp
                            with_reducible rfl
                          rotate_left
                          · simp only [Act.put, List.setIfInBounds_toArray, List.set_cons_zero, List.set_cons_succ, i64_w, i32_w]
                            rfl
                          refine pure_ (i := 14) (N := some 38) (v := ?_) (a' := ?_) #[true, true, true, true, true, false, false, false, true, true, false, false, true, true, true, false, false, false, false, false, false, false] rfl rfl (any_of HT_.out (by kernel_rfl)) (fun _ _ _ h => h) (Or.inl ⟨by rfl, ?_⟩) ?_ ?_
                          rotate_left
                          · intro w'
                            go_simp
                            with_reducible rfl
                          rotate_left
                          · simp only [Act.put, List.setIfInBounds_toArray, List.set_cons_zero, List.set_cons_succ, i64_w, i32_w]
                            rfl
                          refine take_ (i := 15) (N := some 39) (v := ?_) (a' := ?_) #[true, true, true, true, true, false, false, false, true, true, false, false, true, true, true, true, false, false, false, false, false, false] rfl rfl (take_ofW HT_.out HW_.out (by kernel_rfl)) (fun _ _ _ h => h) (Or.inl ⟨by rfl, ?_⟩) hHeld ?_ ?_
                          rotate_left
                          · rintro w' ⟨s0, s1, s2, s3, s4, s5, s6, s7, s8, s9, s10, s11, s12, s13, s14⟩
                            go_simp
                            with_reducible rfl
                          rotate_left
                          · simp only [Act.put, List.setIfInBounds_toArray, List.set_cons_zero, List.set_cons_succ, i64_w, i32_w]
                            rfl
                          refine take_ (i := 16) (N := some 40) (v := ?_) (a' := ?_) #[true, true, true, true, true, false, false, false, true, true, false, false, true, true, true, true, true, false, false, false, false, false] rfl rfl (take_ofW HT_.out HW_.out (by kernel_rfl)) (fun _ _ _ h => h) (Or.inl ⟨by rfl, ?_⟩) hHeld ?_ ?_
                          rotate_left
                          · rintro w' ⟨s0, s1, s2, s3, s4, s5, s6, s7, s8, s9, s10, s11, s12, s13, s14⟩
                            go_simp
                            with_reducible rfl
                          rotate_left
                          · simp only [Act.put, List.setIfInBounds_toArray, List.set_cons_zero, List.set_cons_succ, i64_w, i32_w]
                            rfl
                          refine one_ (i := 5) (N := some 29) #[true, true, true, true, true, true, false, false, true, true, false, false, true, true, true, true, true, false, false, false, false, false] rfl rfl (one_of HT_.out (by kernel_rfl)) (by decide) (fun K hK => ?_)
                          refine goes_ Tryd.func34 (by kernel_rfl) rfl #[.agg #[.string a0_0, .string a0_1, .int .i64 a0_2, .int .i64 a0_3, .slice (some ad136) l0_4.length c0_4]] (by rfl) rfl rfl (by (try simp only [List.map_toArray, List.map_cons, List.map_nil]); first | done | rfl | (simp only [List.length_drop, List.length_take]; rfl)) ?_
                          with_reducible refine (sift_rank.calls a0_0 a0_1 a0_2 a0_3 _ _ l0_4 t137 _ ?side1 ?side2 A9.out).mono ?_
                          (case side1 => repeat (first | exact (Kd.C_below HR0_4.out HB.out) | (with_reducible refine Kd.C_alloc ?_ _) | (with_reducible refine Kd.C_drewN ?_ _) | (with_reducible refine Kd.C_drew ?_)))
                          (case side2 => exact HC0_4.out)
                          rintro e w23 ⟨rfl, hb⟩
                          refine ⟨_, rfl, ?_⟩
                          have n0_ := Aside0.mk (blk_below (g := gb135) (o := .cells #[.string a0_0, .string a0_1, .int .i64 a0_2, .int .i64 a0_3, .slice (some ad136) l0_4.length c0_4] 24 (0, 0)) (by (with_reducible repeat (first | refine blk_drewN ?_ _ | refine blk_drew ?_ | refine blk_alloc ?_ _)); exact BK135.out) hb)
                          have n1_ := Aside0.mk (below_step (by repeat (first | (with_reducible first | exact HB.out | apply below_alloc | apply pw_below_drewN | apply below_drew1 | refine below_set ?_ GE135.out) | exact HB.out)) hb)
                          clear BK135
                          clear HB
                          have BK135 := n0_
                          have HB := n1_
                          clear n0_ n1_
                          (try clear hb)
                          (try clear hb2)
                          (try clear hk)
                          (try clear hi)
                          refine hK.out _ _ ⟨(blk_cell BK135.out 0).trans rfl, (blk_cell BK135.out 1).trans rfl, (blk_cell BK135.out 2).trans rfl, (blk_cell BK135.out 3).trans rfl, (blk_cell BK135.out 4).trans rfl, ((HB.out.cell (World.block_lt_of_cell? w _ hw136_0)).trans hw136_0), ((HB.out.cell (World.block_lt_of_cell? w _ hw136_1)).trans hw136_1), ((HB.out.cell (World.block_lt_of_cell? w _ hw136_2)).trans hw136_2), ((HB.out.cell (World.block_lt_of_cell? w _ hw136_3)).trans hw136_3), ((HB.out.cell (World.block_lt_of_cell? w _ hw136_4)).trans hw136_4), ((HB.out.cell (World.block_lt_of_cell? w _ hw139_0)).trans hw139_0), ((HB.out.cell (World.block_lt_of_cell? w _ hw139_1)).trans hw139_1), ((HB.out.cell (World.block_lt_of_cell? w _ hw139_2)).trans hw139_2), ((HB.out.cell (World.block_lt_of_cell? w _ hw139_3)).trans hw139_3), ((HB.out.cell (World.block_lt_of_cell? w _ hw139_4)).trans hw139_4)⟩ (fun hHeld => ?_)
                          clear hK K
                          refine norm_ (a' := ?_) ?_ ?_
                          rotate_left
                          · show Act.put _ (some 29) _ = _
                            simp only [Act.put, List.setIfInBounds_toArray, List.set_cons_zero, List.set_cons_succ, i64_w, i32_w]
                            rfl
                          refine one_ (i := 6) (N := some 30) #[true, true, true, true, true, true, true, false, true, true, false, false, true, true, true, true, true, false, false, false, false, false] rfl rfl (one_of HT_.out (by kernel_rfl)) (by decide) (fun K hK => ?_)
                          refine goes_ Tryd.func19 (by kernel_rfl) rfl #[.agg #[.string ((rd_T24 l0_4 0).f0), .string ((rd_T24 l0_4 0).f1), .int .i64 ((rd_T24 l0_4 0).f2), .int .i64 ((rd_T24 l0_4 0).f3), .slice A136_4 ((rd_T24 l0_4 0).f4).length c136_4], .int .i64 t137] (by rfl) rfl rfl (by (try simp only [List.map_toArray, List.map_cons, List.map_nil]); first | done | rfl | (simp only [List.length_drop, List.length_take]; rfl)) ?_
                          with_reducible refine (ih (hP := Pows.below hP (by repeat (first | (with_reducible first | exact HB.out | apply below_alloc | apply pw_below_drewN | apply below_drew1) | exact HB.out | exact Below.refl _ _))) kj2 (by have := HJ2.out; omega) ((rd_T24 l0_4 0).f0) ((rd_T24 l0_4 0).f1) ((rd_T24 l0_4 0).f2) ((rd_T24 l0_4 0).f3) _ _ ((rd_T24 l0_4 0).f4) t137 t138 _ ?side1 ?side2 A10.out).mono ?_
                          (case side1 => repeat (first | exact (Kd.C_below HR136_4.out HB.out) | (with_reducible refine Kd.C_alloc ?_ _) | (with_reducible refine Kd.C_drewN ?_ _) | (with_reducible refine Kd.C_drew ?_)))
                          (case side2 => exact HC136_4.out)
                          rintro e w24 ⟨rfl, hb⟩
                          refine ⟨_, rfl, ?_⟩
                          have n0_ := Aside0.mk (blk_below (g := gb135) (o := .cells #[.string a0_0, .string a0_1, .int .i64 a0_2, .int .i64 a0_3, .slice (some ad136) l0_4.length c0_4] 24 (0, 0)) (by (with_reducible repeat (first | refine blk_drewN ?_ _ | refine blk_drew ?_ | refine blk_alloc ?_ _)); exact BK135.out) hb)
                          have n1_ := Aside0.mk (below_step (by repeat (first | (with_reducible first | exact HB.out | apply below_alloc | apply pw_below_drewN | apply below_drew1 | refine below_set ?_ GE135.out) | exact HB.out)) hb)
                          clear BK135
                          clear HB
                          have BK135 := n0_
                          have HB := n1_
                          clear n0_ n1_
                          (try clear hb)
                          (try clear hb2)
                          (try clear hk)
                          (try clear hi)
                          refine hK.out _ _ ⟨(blk_cell BK135.out 0).trans rfl, (blk_cell BK135.out 1).trans rfl, (blk_cell BK135.out 2).trans rfl, (blk_cell BK135.out 3).trans rfl, (blk_cell BK135.out 4).trans rfl, ((HB.out.cell (World.block_lt_of_cell? w _ hw136_0)).trans hw136_0), ((HB.out.cell (World.block_lt_of_cell? w _ hw136_1)).trans hw136_1), ((HB.out.cell (World.block_lt_of_cell? w _ hw136_2)).trans hw136_2), ((HB.out.cell (World.block_lt_of_cell? w _ hw136_3)).trans hw136_3), ((HB.out.cell (World.block_lt_of_cell? w _ hw136_4)).trans hw136_4), ((HB.out.cell (World.block_lt_of_cell? w _ hw139_0)).trans hw139_0), ((HB.out.cell (World.block_lt_of_cell? w _ hw139_1)).trans hw139_1), ((HB.out.cell (World.block_lt_of_cell? w _ hw139_2)).trans hw139_2), ((HB.out.cell (World.block_lt_of_cell? w _ hw139_3)).trans hw139_3), ((HB.out.cell (World.block_lt_of_cell? w _ hw139_4)).trans hw139_4)⟩ (fun hHeld => ?_)
                          clear hK K
                          refine norm_ (a' := ?_) ?_ ?_
                          rotate_left
                          · show Act.put _ (some 30) _ = _
                            simp only [Act.put, List.setIfInBounds_toArray, List.set_cons_zero, List.set_cons_succ, i64_w, i32_w]
                            rfl
                          refine pure_ (i := 7) (N := some 31) (v := ?_) (a' := ?_) #[true, true, true, true, true, true, true, true, true, true, false, false, true, true, true, true, true, false, false, false, false, false] rfl rfl (any_of HT_.out (by kernel_rfl)) (fun _ _ _ h => h) (Or.inl ⟨by rfl, ?_⟩) ?_ ?_
                          rotate_left
                          · intro w'
                            go_simp
                            with_reducible rfl
                          rotate_left
                          · simp only [Act.put, List.setIfInBounds_toArray, List.set_cons_zero, List.set_cons_succ, i64_w, i32_w]
                            rfl
                          refine pure_ (i := 10) (N := some 34) (v := ?_) (a' := ?_) #[true, true, true, true, true, true, true, true, true, true, true, false, true, true, true, true, true, false, false, false, false, false] rfl rfl (any_of HT_.out (by kernel_rfl)) (fun _ _ _ h => h) (Or.inl ⟨by rfl, ?_⟩) ?_ ?_
                          rotate_left
                          · intro w'
                            go_simp
                            with_reducible rfl
                          rotate_left
                          · simp only [Act.put, List.setIfInBounds_toArray, List.set_cons_zero, List.set_cons_succ, i64_w, i32_w]
                            rfl
                          refine pure_ (i := 11) (N := some 35) (v := ?_) (a' := ?_) #[true, true, true, true, true, true, true, true, true, true, true, true, true, true, true, true, true, false, false, false, false, false] rfl rfl (any_of HT_.out (by kernel_rfl)) (fun _ _ _ h => h) (Or.inl ⟨by rfl, ?_⟩) ?_ ?_
                          rotate_left
                          · intro w'
                            go_simp
                            with_reducible rfl
                          rotate_left
                          · simp only [Act.put, List.setIfInBounds_toArray, List.set_cons_zero, List.set_cons_succ, i64_w, i32_w]
                            rfl
                          refine one_ (i := 17) (N := some 41) #[true, true, true, true, true, true, true, true, true, true, true, true, true, true, true, true, true, true, false, false, false, false] rfl rfl (one_of HT_.out (by kernel_rfl)) (by decide) (fun K hK => ?_)
                          refine goes_ Tryd.func34 (by kernel_rfl) rfl #[.agg #[.string a0_0, .string a0_1, .int .i64 a0_2, .int .i64 a0_3, .slice (some ad136) l0_4.length c0_4]] (by rfl) rfl rfl (by (try simp only [List.map_toArray, List.map_cons, List.map_nil]); first | done | rfl | (simp only [List.length_drop, List.length_take]; rfl)) ?_
                          with_reducible refine (sift_rank.calls a0_0 a0_1 a0_2 a0_3 _ _ l0_4 t140 _ ?side1 ?side2 A15.out).mono ?_
                          (case side1 => repeat (first | exact (Kd.C_below HR0_4.out HB.out) | (with_reducible refine Kd.C_alloc ?_ _) | (with_reducible refine Kd.C_drewN ?_ _) | (with_reducible refine Kd.C_drew ?_)))
                          (case side2 => exact HC0_4.out)
                          rintro e w25 ⟨rfl, hb⟩
                          refine ⟨_, rfl, ?_⟩
                          have n0_ := Aside0.mk (blk_below (g := gb135) (o := .cells #[.string a0_0, .string a0_1, .int .i64 a0_2, .int .i64 a0_3, .slice (some ad136) l0_4.length c0_4] 24 (0, 0)) (by (with_reducible repeat (first | refine blk_drewN ?_ _ | refine blk_drew ?_ | refine blk_alloc ?_ _)); exact BK135.out) hb)
                          have n1_ := Aside0.mk (below_step (by repeat (first | (with_reducible first | exact HB.out | apply below_alloc | apply pw_below_drewN | apply below_drew1 | refine below_set ?_ GE135.out) | exact HB.out)) hb)
                          clear BK135
                          clear HB
                          have BK135 := n0_
                          have HB := n1_
                          clear n0_ n1_
                          (try clear hb)
                          (try clear hb2)
                          (try clear hk)
                          (try clear hi)
                          refine hK.out _ _ ⟨(blk_cell BK135.out 0).trans rfl, (blk_cell BK135.out 1).trans rfl, (blk_cell BK135.out 2).trans rfl, (blk_cell BK135.out 3).trans rfl, (blk_cell BK135.out 4).trans rfl, ((HB.out.cell (World.block_lt_of_cell? w _ hw136_0)).trans hw136_0), ((HB.out.cell (World.block_lt_of_cell? w _ hw136_1)).trans hw136_1), ((HB.out.cell (World.block_lt_of_cell? w _ hw136_2)).trans hw136_2), ((HB.out.cell (World.block_lt_of_cell? w _ hw136_3)).trans hw136_3), ((HB.out.cell (World.block_lt_of_cell? w _ hw136_4)).trans hw136_4), ((HB.out.cell (World.block_lt_of_cell? w _ hw139_0)).trans hw139_0), ((HB.out.cell (World.block_lt_of_cell? w _ hw139_1)).trans hw139_1), ((HB.out.cell (World.block_lt_of_cell? w _ hw139_2)).trans hw139_2), ((HB.out.cell (World.block_lt_of_cell? w _ hw139_3)).trans hw139_3), ((HB.out.cell (World.block_lt_of_cell? w _ hw139_4)).trans hw139_4)⟩ (fun hHeld => ?_)
                          clear hK K
                          refine norm_ (a' := ?_) ?_ ?_
                          rotate_left
                          · show Act.put _ (some 41) _ = _
                            simp only [Act.put, List.setIfInBounds_toArray, List.set_cons_zero, List.set_cons_succ, i64_w, i32_w]
                            rfl
                          refine pure_ (i := 18) (N := some 42) (v := ?_) (a' := ?_) #[true, true, true, true, true, true, true, true, true, true, true, true, true, true, true, true, true, true, true, false, false, false] rfl rfl (any_of HT_.out (by kernel_rfl)) (fun _ _ _ h => h) (Or.inl ⟨by rfl, ?_⟩) ?_ ?_
                          rotate_left
                          · intro w'
                            go_simp
                            with_reducible rfl
                          rotate_left
                          · simp only [Act.put, List.setIfInBounds_toArray, List.set_cons_zero, List.set_cons_succ, i64_w, i32_w]
                            rfl
                          refine one_ (i := 19) (N := some 43) #[true, true, true, true, true, true, true, true, true, true, true, true, true, true, true, true, true, true, true, true, false, false] rfl rfl (one_of HT_.out (by kernel_rfl)) (by decide) (fun K hK => ?_)
                          refine goes_ Tryd.func19 (by kernel_rfl) rfl #[.agg #[.string ((rd_T24 l0_4 1).f0), .string ((rd_T24 l0_4 1).f1), .int .i64 ((rd_T24 l0_4 1).f2), .int .i64 ((rd_T24 l0_4 1).f3), .slice A139_4 ((rd_T24 l0_4 1).f4).length c139_4], .int .i64 (wrap64 (t140 + 1))] (by rfl) rfl rfl (by (try simp only [List.map_toArray, List.map_cons, List.map_nil]); first | done | rfl | (simp only [List.length_drop, List.length_take]; rfl)) ?_
                          with_reducible refine (ih (hP := Pows.below hP (by repeat (first | (with_reducible first | exact HB.out | apply below_alloc | apply pw_below_drewN | apply below_drew1) | exact HB.out | exact Below.refl _ _))) kj2 (by have := HJ2.out; omega) ((rd_T24 l0_4 1).f0) ((rd_T24 l0_4 1).f1) ((rd_T24 l0_4 1).f2) ((rd_T24 l0_4 1).f3) _ _ ((rd_T24 l0_4 1).f4) (wrap64 (t140 + 1)) t141 _ ?side1 ?side2 A16.out).mono ?_
                          (case side1 => repeat (first | exact (Kd.C_below HR139_4.out HB.out) | (with_reducible refine Kd.C_alloc ?_ _) | (with_reducible refine Kd.C_drewN ?_ _) | (with_reducible refine Kd.C_drew ?_)))
                          (case side2 => exact HC139_4.out)
                          rintro e w26 ⟨rfl, hb⟩
                          refine ⟨_, rfl, ?_⟩
                          have n0_ := Aside0.mk (blk_below (g := gb135) (o := .cells #[.string a0_0, .string a0_1, .int .i64 a0_2, .int .i64 a0_3, .slice (some ad136) l0_4.length c0_4] 24 (0, 0)) (by (with_reducible repeat (first | refine blk_drewN ?_ _ | refine blk_drew ?_ | refine blk_alloc ?_ _)); exact BK135.out) hb)
                          have n1_ := Aside0.mk (below_step (by repeat (first | (with_reducible first | exact HB.out | apply below_alloc | apply pw_below_drewN | apply below_drew1 | refine below_set ?_ GE135.out) | exact HB.out)) hb)
                          clear BK135
                          clear HB
                          have BK135 := n0_
                          have HB := n1_
                          clear n0_ n1_
                          (try clear hb)
                          (try clear hb2)
                          (try clear hk)
                          (try clear hi)
                          refine hK.out _ _ ⟨(blk_cell BK135.out 0).trans rfl, (blk_cell BK135.out 1).trans rfl, (blk_cell BK135.out 2).trans rfl, (blk_cell BK135.out 3).trans rfl, (blk_cell BK135.out 4).trans rfl, ((HB.out.cell (World.block_lt_of_cell? w _ hw136_0)).trans hw136_0), ((HB.out.cell (World.block_lt_of_cell? w _ hw136_1)).trans hw136_1), ((HB.out.cell (World.block_lt_of_cell? w _ hw136_2)).trans hw136_2), ((HB.out.cell (World.block_lt_of_cell? w _ hw136_3)).trans hw136_3), ((HB.out.cell (World.block_lt_of_cell? w _ hw136_4)).trans hw136_4), ((HB.out.cell (World.block_lt_of_cell? w _ hw139_0)).trans hw139_0), ((HB.out.cell (World.block_lt_of_cell? w _ hw139_1)).trans hw139_1), ((HB.out.cell (World.block_lt_of_cell? w _ hw139_2)).trans hw139_2), ((HB.out.cell (World.block_lt_of_cell? w _ hw139_3)).trans hw139_3), ((HB.out.cell (World.block_lt_of_cell? w _ hw139_4)).trans hw139_4)⟩ (fun hHeld => ?_)
                          clear hK K
                          refine norm_ (a' := ?_) ?_ ?_
                          rotate_left
                          · show Act.put _ (some 43) _ = _
                            simp only [Act.put, List.setIfInBounds_toArray, List.set_cons_zero, List.set_cons_succ, i64_w, i32_w]
                            rfl
                          refine pure_ (i := 20) (N := some 44) (v := ?_) (a' := ?_) #[true, true, true, true, true, true, true, true, true, true, true, true, true, true, true, true, true, true, true, true, true, false] rfl rfl (any_of HT_.out (by kernel_rfl)) (fun _ _ _ h => h) (Or.inl ⟨by rfl, ?_⟩) ?_ ?_
                          rotate_left
                          · intro w'
                            go_simp
                            with_reducible rfl
                          rotate_left
                          · simp only [Act.put, List.setIfInBounds_toArray, List.set_cons_zero, List.set_cons_succ, i64_w, i32_w]
                            rfl
                          refine pure_ (i := 21) (N := some 5) (v := ?_) (a' := ?_) #[true, true, true, true, true, true, true, true, true, true, true, true, true, true, true, true, true, true, true, true, true, true] rfl rfl (any_of HT_.out (by kernel_rfl)) (fun _ _ _ h => h) (Or.inl ⟨by rfl, ?_⟩) ?_ ?_
                          rotate_left
                          · intro w'
                            go_simp
                            with_reducible rfl
                          rotate_left
                          · simp only [Act.put, List.setIfInBounds_toArray, List.set_cons_zero, List.set_cons_succ, i64_w, i32_w]
                            rfl
                          refine done_ (done_of HT_.out (by kernel_rfl)) ?_
                          have hcz27_0 : w26.cell? ⟨gb135, 0, none⟩ = some (.string a0_0) := (blk_cell BK135.out 0).trans rfl
                          have hcz27_1 : w26.cell? ⟨gb135, 1, none⟩ = some (.string a0_1) := (blk_cell BK135.out 1).trans rfl
                          have hcz27_2 : w26.cell? ⟨gb135, 2, none⟩ = some (.int .i64 a0_2) := (blk_cell BK135.out 2).trans rfl
                          have hcz27_3 : w26.cell? ⟨gb135, 3, none⟩ = some (.int .i64 a0_3) := (blk_cell BK135.out 3).trans rfl
                          have hcz27_4 : w26.cell? ⟨gb135, 4, none⟩ = some (.slice (some ad136) l0_4.length c0_4) := (blk_cell BK135.out 4).trans rfl
                          have hfz27_0 := blk_frozen BK135.out 0
                          have hfz27_1 := blk_frozen BK135.out 1
                          have hfz27_2 := blk_frozen BK135.out 2
                          have hfz27_3 := blk_frozen BK135.out 3
                          have hfz27_4 := blk_frozen BK135.out 4
                          try go_wp2_with (first | ((with_reducible refine gate_callee (f := 34) rfl ?_); refine goesL_ (some 71) rfl rfl Tryd.func34 (by kernel_rfl) rfl #[.agg #[.string a0_0, .string a0_1, .int .i64 a0_2, .int .i64 a0_3, .slice (some ad136) l0_4.length c0_4]] rfl (by (try simp only [List.map_toArray, List.map_cons, List.map_nil]); first | done | rfl | (simp only [List.length_drop, List.length_take]; rfl)) ?_; (with_reducible refine (sift_rank.calls a0_0 a0_1 a0_2 a0_3 _ _ l0_4 t142 _ ?side1 ?side2 A18.out).mono ?_); (case side1 => repeat (first | exact (Kd.C_below HR0_4.out HB.out) | (with_reducible refine Kd.C_alloc ?_ _) | (with_reducible refine Kd.C_drewN ?_ _) | (with_reducible refine Kd.C_drew ?_))); (case side2 => exact HC0_4.out); rintro e w28 ⟨rfl, hb⟩; refine ⟨_, rfl, ?_⟩; have n0_ := Aside0.mk (blk_below (g := gb135) (o := .cells #[.string a0_0, .string a0_1, .int .i64 a0_2, .int .i64 a0_3, .slice (some ad136) l0_4.length c0_4] 24 (0, 0)) (by (with_reducible repeat (first | refine blk_drewN ?_ _ | refine blk_drew ?_ | refine blk_alloc ?_ _)); exact BK135.out) hb); have n1_ := Aside0.mk (below_step (by repeat (first | (with_reducible first | exact HB.out | apply below_alloc | apply pw_below_drewN | apply below_drew1 | refine below_set ?_ GE135.out) | exact HB.out)) hb); clear BK135; clear HB; have BK135 := n0_; have HB := n1_; clear n0_ n1_; (try clear hb); (try clear hb2); (try clear hk); (try clear hi)))
                          go_ret
                          exact ⟨by first | rfl | (simp [errW_none, errW_some] <;> rfl) | (simp [*, errW_none, errW_some] <;> rfl), by repeat (first | (with_reducible first | exact HB.out | apply below_alloc | apply pw_below_drewN | apply below_drew1 | refine below_set ?_ GE135.out) | exact HB.out)⟩
                        · rw [if_neg c21] at H
                          exact absurd H (by simp)
                      · rw [if_neg c20] at H
                        exact absurd H (by simp)
                    · rw [if_neg c19] at H
                      have c19b0 : decide (t142 < a1) = false := decide_eq_false c19
                      clear c19
                      obtain rfl := Option.some.inj H
                      try go_wp2
                      have n0_ := Aside0.mk (blk_drew BK135.out)
                      have n1_ := Aside0.mk (below_drew1 HB.out)
                      clear BK135
                      clear HB
                      have BK135 := n0_
                      have HB := n1_
                      clear n0_ n1_
                      have p136 : 0 ≤ (0 : Int) := (by omega)
                      have q136 : 0 < (l0_4.length : Int) := of_decide_eq_true (by first | (with_reducible assumption) | assumption)
                      obtain ⟨ad136, A136_4, c136_4, e136, hx136_0, hx136_1, hx136_2, hx136_3, hx136_4, hl136_4, hi136_4⟩ := at_T24 HR0_4.out 0 p136 q136
                      have hw136_4 := hx136_4
                      (try rw [show ((0 : Int)).toNat = 0 from rfl] at hw136_4)
                      (try rw [show 0 * 5 = 0 from rfl] at hw136_4)
                      (try rw [Addr.add_zero'] at hw136_4)
                      have hw136_3 := hx136_3
                      (try rw [show ((0 : Int)).toNat = 0 from rfl] at hw136_3)
                      (try rw [show 0 * 5 = 0 from rfl] at hw136_3)
                      (try rw [Addr.add_zero'] at hw136_3)
                      have hw136_2 := hx136_2
                      (try rw [show ((0 : Int)).toNat = 0 from rfl] at hw136_2)
                      (try rw [show 0 * 5 = 0 from rfl] at hw136_2)
                      (try rw [Addr.add_zero'] at hw136_2)
                      have hw136_1 := hx136_1
                      (try rw [show ((0 : Int)).toNat = 0 from rfl] at hw136_1)
                      (try rw [show 0 * 5 = 0 from rfl] at hw136_1)
                      (try rw [Addr.add_zero'] at hw136_1)
                      have hw136_0 := hx136_0
                      (try rw [show ((0 : Int)).toNat = 0 from rfl] at hw136_0)
                      (try rw [show 0 * 5 = 0 from rfl] at hw136_0)
                      (try rw [Addr.add_zero'] at hw136_0)
                      cases e136
                      have qi136 : (0 < l0_4.length) = True := eq_true (by omega)
                      (try rw [show ((0 : Int)).toNat = 0 from rfl] at hx136_0)
                      (try rw [show 0 * 5 = 0 from rfl] at hx136_0)
                      (try rw [Addr.add_zero'] at hx136_0)
                      (try rw [show ((0 : Int)).toNat = 0 from rfl] at hx136_1)
                      (try rw [show 0 * 5 = 0 from rfl] at hx136_1)
                      (try rw [Addr.add_zero'] at hx136_1)
                      (try rw [show ((0 : Int)).toNat = 0 from rfl] at hx136_2)
                      (try rw [show 0 * 5 = 0 from rfl] at hx136_2)
                      (try rw [Addr.add_zero'] at hx136_2)
                      (try rw [show ((0 : Int)).toNat = 0 from rfl] at hx136_3)
                      (try rw [show 0 * 5 = 0 from rfl] at hx136_3)
                      (try rw [Addr.add_zero'] at hx136_3)
                      (try rw [show ((0 : Int)).toNat = 0 from rfl] at hx136_4)
                      (try rw [show 0 * 5 = 0 from rfl] at hx136_4)
                      (try rw [Addr.add_zero'] at hx136_4)
                      replace hx136_0 := (HB.out.cell (World.block_lt_of_cell? w _ hx136_0)).trans hx136_0
                      replace hx136_1 := (HB.out.cell (World.block_lt_of_cell? w _ hx136_1)).trans hx136_1
                      replace hx136_2 := (HB.out.cell (World.block_lt_of_cell? w _ hx136_2)).trans hx136_2
                      replace hx136_3 := (HB.out.cell (World.block_lt_of_cell? w _ hx136_3)).trans hx136_3
                      replace hx136_4 := (HB.out.cell (World.block_lt_of_cell? w _ hx136_4)).trans hx136_4
                      have HR136_4 := Aside0.mk hi136_4
                      have HC136_4 := Aside0.mk hl136_4
                      clear hi136_4 hl136_4
                      replace p136 := eq_true p136
                      replace q136 := eq_true q136
                      have p139 : 0 ≤ (1 : Int) := (by omega)
                      have q139 : 1 < (l0_4.length : Int) := of_decide_eq_true (by first | (with_reducible assumption) | assumption)
                      obtain ⟨ad139, A139_4, c139_4, e139, hx139_0, hx139_1, hx139_2, hx139_3, hx139_4, hl139_4, hi139_4⟩ := at_T24 HR0_4.out 1 p139 q139
                      have hw139_4 := hx139_4
                      (try rw [show ((1 : Int)).toNat = 1 from rfl] at hw139_4)
                      (try rw [show 1 * 5 = 5 from rfl] at hw139_4)
                      (try simp only [Nat.reduceMul, Nat.reduceEqDiff, Go.Addr.add, ↓reduceIte] at hw139_4)
                      have hw139_3 := hx139_3
                      (try rw [show ((1 : Int)).toNat = 1 from rfl] at hw139_3)
                      (try rw [show 1 * 5 = 5 from rfl] at hw139_3)
                      (try simp only [Nat.reduceMul, Nat.reduceEqDiff, Go.Addr.add, ↓reduceIte] at hw139_3)
                      have hw139_2 := hx139_2
                      (try rw [show ((1 : Int)).toNat = 1 from rfl] at hw139_2)
                      (try rw [show 1 * 5 = 5 from rfl] at hw139_2)
                      (try simp only [Nat.reduceMul, Nat.reduceEqDiff, Go.Addr.add, ↓reduceIte] at hw139_2)
                      have hw139_1 := hx139_1
                      (try rw [show ((1 : Int)).toNat = 1 from rfl] at hw139_1)
                      (try rw [show 1 * 5 = 5 from rfl] at hw139_1)
                      (try simp only [Nat.reduceMul, Nat.reduceEqDiff, Go.Addr.add, ↓reduceIte] at hw139_1)
                      have hw139_0 := hx139_0
                      (try rw [show ((1 : Int)).toNat = 1 from rfl] at hw139_0)
                      (try rw [show 1 * 5 = 5 from rfl] at hw139_0)
                      (try simp only [Nat.reduceMul, Nat.reduceEqDiff, Go.Addr.add, ↓reduceIte] at hw139_0)
                      obtain rfl : ad136 = ad139 := (by injection e139)
                      (try simp only [show (1 : Int).toNat = 1 from rfl, Nat.reduceMul, Nat.reduceEqDiff, Go.Addr.add, ↓reduceIte] at hx139_0)
                      (try simp only [show (1 : Int).toNat = 1 from rfl, Nat.reduceMul, Nat.reduceEqDiff, Go.Addr.add, ↓reduceIte] at hx139_1)
                      (try simp only [show (1 : Int).toNat = 1 from rfl, Nat.reduceMul, Nat.reduceEqDiff, Go.Addr.add, ↓reduceIte] at hx139_2)
                      (try simp only [show (1 : Int).toNat = 1 from rfl, Nat.reduceMul, Nat.reduceEqDiff, Go.Addr.add, ↓reduceIte] at hx139_3)
                      (try simp only [show (1 : Int).toNat = 1 from rfl, Nat.reduceMul, Nat.reduceEqDiff, Go.Addr.add, ↓reduceIte] at hx139_4)
                      have qi139 : (1 < l0_4.length) = True := eq_true (by omega)
                      (try rw [show ((1 : Int)).toNat = 1 from rfl] at hx139_0)
                      (try rw [show 1 * 5 = 5 from rfl] at hx139_0)
                      (try rw [show ((1 : Int)).toNat = 1 from rfl] at hx139_1)
                      (try rw [show 1 * 5 = 5 from rfl] at hx139_1)
                      (try rw [show ((1 : Int)).toNat = 1 from rfl] at hx139_2)
                      (try rw [show 1 * 5 = 5 from rfl] at hx139_2)
                      (try rw [show ((1 : Int)).toNat = 1 from rfl] at hx139_3)
                      (try rw [show 1 * 5 = 5 from rfl] at hx139_3)
                      (try rw [show ((1 : Int)).toNat = 1 from rfl] at hx139_4)
                      (try rw [show 1 * 5 = 5 from rfl] at hx139_4)
                      replace hx139_0 := (HB.out.cell (World.block_lt_of_cell? w _ hx139_0)).trans hx139_0
                      replace hx139_1 := (HB.out.cell (World.block_lt_of_cell? w _ hx139_1)).trans hx139_1
                      replace hx139_2 := (HB.out.cell (World.block_lt_of_cell? w _ hx139_2)).trans hx139_2
                      replace hx139_3 := (HB.out.cell (World.block_lt_of_cell? w _ hx139_3)).trans hx139_3
                      replace hx139_4 := (HB.out.cell (World.block_lt_of_cell? w _ hx139_4)).trans hx139_4
                      have HR139_4 := Aside0.mk hi139_4
                      have HC139_4 := Aside0.mk hl139_4
                      clear hi139_4 hl139_4
                      replace p139 := eq_true p139
                      replace q139 := eq_true q139
                      refine start_ (n := 22) (S := fun w' => w'.cell? ⟨gb135, 0, none⟩ = some (.string a0_0) ∧ w'.cell? ⟨gb135, 1, none⟩ = some (.string a0_1) ∧ w'.cell? ⟨gb135, 2, none⟩ = some (.int .i64 a0_2) ∧ w'.cell? ⟨gb135, 3, none⟩ = some (.int .i64 a0_3) ∧ w'.cell? ⟨gb135, 4, none⟩ = some (.slice (some ad136) l0_4.length c0_4) ∧ w'.cell? ad136 = some (.string ((rd_T24 l0_4 0).f0)) ∧ w'.cell? ⟨ad136.block, ad136.off + 1, none⟩ = some (.string ((rd_T24 l0_4 0).f1)) ∧ w'.cell? ⟨ad136.block, ad136.off + 2, none⟩ = some (.int .i64 ((rd_T24 l0_4 0).f2)) ∧ w'.cell? ⟨ad136.block, ad136.off + 3, none⟩ = some (.int .i64 ((rd_T24 l0_4 0).f3)) ∧ w'.cell? ⟨ad136.block, ad136.off + 4, none⟩ = some (.slice A136_4 ((rd_T24 l0_4 0).f4).length c136_4) ∧ w'.cell? ⟨ad136.block, ad136.off + 5, none⟩ = some (.string ((rd_T24 l0_4 1).f0)) ∧ w'.cell? ⟨ad136.block, ad136.off + 5 + 1, none⟩ = some (.string ((rd_T24 l0_4 1).f1)) ∧ w'.cell? ⟨ad136.block, ad136.off + 5 + 2, none⟩ = some (.int .i64 ((rd_T24 l0_4 1).f2)) ∧ w'.cell? ⟨ad136.block, ad136.off + 5 + 3, none⟩ = some (.int .i64 ((rd_T24 l0_4 1).f3)) ∧ w'.cell? ⟨ad136.block, ad136.off + 5 + 4, none⟩ = some (.slice A139_4 ((rd_T24 l0_4 1).f4).length c139_4)) (ds := []) #[false, false, false, false, false, false, false, false, false, false, false, false, false, false, false, false, false, false, false, false, false, false] (by kernel_rfl) rfl rfl ⟨(blk_cell BK135.out 0).trans rfl, (blk_cell BK135.out 1).trans rfl, (blk_cell BK135.out 2).trans rfl, (blk_cell BK135.out 3).trans rfl, (blk_cell BK135.out 4).trans rfl, ((HB.out.cell (World.block_lt_of_cell? w _ hw136_0)).trans hw136_0), ((HB.out.cell (World.block_lt_of_cell? w _ hw136_1)).trans hw136_1), ((HB.out.cell (World.block_lt_of_cell? w _ hw136_2)).trans hw136_2), ((HB.out.cell (World.block_lt_of_cell? w _ hw136_3)).trans hw136_3), ((HB.out.cell (World.block_lt_of_cell? w _ hw136_4)).trans hw136_4), ((HB.out.cell (World.block_lt_of_cell? w _ hw139_0)).trans hw139_0), ((HB.out.cell (World.block_lt_of_cell? w _ hw139_1)).trans hw139_1), ((HB.out.cell (World.block_lt_of_cell? w _ hw139_2)).trans hw139_2), ((HB.out.cell (World.block_lt_of_cell? w _ hw139_3)).trans hw139_3), ((HB.out.cell (World.block_lt_of_cell? w _ hw139_4)).trans hw139_4)⟩ (fun hHeld => ?_); refine with_tabW sift_printed.tab6 sift_printed.bits6 (fun HT_ HW_ => ?_)
                      generalize wc.drew = w29 at BK135 HB HR136_4 HR139_4 hx136_0 hx136_1 hx136_2 hx136_3 hx136_4 hx139_0 hx139_1 hx139_2 hx139_3 hx139_4 hHeld ⊢
                      refine pure_ (i := 0) (N := some 24) (v := ?_) (a' := ?_) #[true, false, false, false, false, false, false, false, false, false, false, false, false, false, false, false, false, false, false, false, false, false] rfl rfl (any_of HT_.out (by kernel_rfl)) (fun _ _ _ h => h) (Or.inl ⟨by rfl, ?_⟩) ?_ ?_
                      rotate_left
                      · intro w'
                        go_simp
                        with_reducible rfl
                      rotate_left
                      · simp only [Act.put, List.setIfInBounds_toArray, List.set_cons_zero, List.set_cons_succ, i64_w, i32_w]
                        rfl
                      refine pure_ (i := 8) (N := some 32) (v := ?_) (a' := ?_) #[true, false, false, false, false, false, false, false, true, false, false, false, false, false, false, false, false, false, false, false, false, false] rfl rfl (any_of HT_.out (by kernel_rfl)) (fun _ _ _ h => h) (Or.inl ⟨by rfl, ?_⟩) ?_ ?_
                      rotate_left
                      · intro w'
                        go_simp
                        with_reducible rfl
                      rotate_left
                      · simp only [Act.put, List.setIfInBounds_toArray, List.set_cons_zero, List.set_cons_succ, i64_w, i32_w]
                        rfl
                      refine pure_ (i := 12) (N := some 36) (v := ?_) (a' := ?_) #[true, false, false, false, false, false, false, false, true, false, false, false, true, false, false, false, false, false, false, false, false, false] rfl rfl (any_of HT_.out (by kernel_rfl)) (fun _ _ _ h => h) (Or.inl ⟨by rfl, ?_⟩) ?_ ?_
                      rotate_left
                      · intro w'
                        go_simp
                        with_reducible rfl
                      rotate_left
                      · simp only [Act.put, List.setIfInBounds_toArray, List.set_cons_zero, List.set_cons_succ, i64_w, i32_w]
                        rfl
                      refine take_ (i := 1) (N := some 25) (v := ?_) (a' := ?_) #[true, true, false, false, false, false, false, false, true, false, false, false, true, false, false, false, false, false, false, false, false, false] rfl rfl (take_ofW HT_.out HW_.out (by kernel_rfl)) (fun _ _ _ h => h) (Or.inl ⟨by rfl, ?_⟩) hHeld ?_ ?_
                      rotate_left
                      · rintro w' ⟨s0, s1, s2, s3, s4, s5, s6, s7, s8, s9, s10, s11, s12, s13, s14⟩
                        go_simp
                        with_reducible rfl
                      rotate_left
                      · simp only [Act.put, List.setIfInBounds_toArray, List.set_cons_zero, List.set_cons_succ, i64_w, i32_w]
                        rfl
                      refine pure_ (i := 2) (N := some 26) (v := ?_) (a' := ?_) #[true, true, true, false, false, false, false, false, true, false, false, false, true, false, false, false, false, false, false, false, false, false] rfl rfl (any_of HT_.out (by kernel_rfl)) (fun _ _ _ h => h) (Or.inl ⟨by rfl, ?_⟩) ?_ ?_
                      rotate_left
                      · intro w'
                        go_simp
                        with_reducible rfl
                      rotate_left
                      · simp only [Act.put, List.setIfInBounds_toArray, List.set_cons_zero, List.set_cons_succ, i64_w, i32_w]
                        rfl
                      refine take_ (i := 3) (N := some 27) (v := ?_) (a' := ?_) #[true, true, true, true, false, false, false, false, true, false, false, false, true, false, false, false, false, false, false, false, false, false] rfl rfl (take_ofW HT_.out HW_.out (by kernel_rfl)) (fun _ _ _ h => h) (Or.inl ⟨by rfl, ?_⟩) hHeld ?_ ?_
                      rotate_left
                      · rintro w' ⟨s0, s1, s2, s3, s4, s5, s6, s7, s8, s9, s10, s11, s12, s13, s14⟩
                        go_simp
                        with_reducible rfl
                      rotate_left
                      · simp only [Act.put, List.setIfInBounds_toArray, List.set_cons_zero, List.set_cons_succ, i64_w, i32_w]
                        rfl
                      refine take_ (i := 4) (N := some 28) (v := ?_) (a' := ?_) #[true, true, true, true, true, false, false, false, true, false, false, false, true, false, false, false, false, false, false, false, false, false] rfl rfl (take_ofW HT_.out HW_.out (by kernel_rfl)) (fun _ _ _ h => h) (Or.inl ⟨by rfl, ?_⟩) hHeld ?_ ?_
                      rotate_left
                      · rintro w' ⟨s0, s1, s2, s3, s4, s5, s6, s7, s8, s9, s10, s11, s12, s13, s14⟩
                        go_simp
                        with_reducible rfl
                      rotate_left
                      · simp only [Act.put, List.setIfInBounds_toArray, List.set_cons_zero, List.set_cons_succ, i64_w, i32_w]
                        rfl
                      refine take_ (i := 9) (N := some 33) (v := ?_) (a' := ?_) #[true, true, true, true, true, false, false, false, true, true, false, false, true, false, false, false, false, false, false, false, false, false] rfl rfl (take_ofW HT_.out HW_.out (by kernel_rfl)) (fun _ _ _ h => h) (Or.inl ⟨by rfl, ?_⟩) hHeld ?_ ?_
                      rotate_left
                      · rintro w' ⟨s0, s1, s2, s3, s4, s5, s6, s7, s8, s9, s10, s11, s12, s13, s14⟩
                        go_simp
                        with_reducible rfl
                      rotate_left
                      · simp only [Act.put, List.setIfInBounds_toArray, List.set_cons_zero, List.set_cons_succ, i64_w, i32_w]
                        rfl
                      refine take_ (i := 13) (N := some 37) (v := ?_) (a' := ?_) #[true, true, true, true, true, false, false, false, true, true, false, false, true, true, false, false, false, false, false, false, false, false] rfl rfl (take_ofW HT_.out HW_.out (by kernel_rfl)) (fun _ _ _ h => h) (Or.inl ⟨by rfl, ?_⟩) hHeld ?_ ?_
                      rotate_left
                      · rintro w' ⟨s0, s1, s2, s3, s4, s5, s6, s7, s8, s9, s10, s11, s12, s13, s14⟩
                        go_simp
                        with_reducible rfl
                      rotate_left
                      · simp only [Act.put, List.setIfInBounds_toArray, List.set_cons_zero, List.set_cons_succ, i64_w, i32_w]
                        rfl
                      refine pure_ (i := 14) (N := some 38) (v := ?_) (a' := ?_) #[true, true, true, true, true, false, false, false, true, true, false, false, true, true, true, false, false, false, false, false, false, false] rfl rfl (any_of HT_.out (by kernel_rfl)) (fun _ _ _ h => h) (Or.inl ⟨by rfl, ?_⟩) ?_ ?_
                      rotate_left
                      · intro w'
                        go_simp
                        with_reducible rfl
                      rotate_left
                      · simp only [Act.put, List.setIfInBounds_toArray, List.set_cons_zero, List.set_cons_succ, i64_w, i32_w]
                        rfl
                      refine take_ (i := 15) (N := some 39) (v := ?_) (a' := ?_) #[true, true, true, true, true, false, false, false, true, true, false, false, true, true, true, true, false, false, false, false, false, false] rfl rfl (take_ofW HT_.out HW_.out (by kernel_rfl)) (fun _ _ _ h => h) (Or.inl ⟨by rfl, ?_⟩) hHeld ?_ ?_
                      rotate_left
                      · rintro w' ⟨s0, s1, s2, s3, s4, s5, s6, s7, s8, s9, s10, s11, s12, s13, s14⟩
                        go_simp
                        with_reducible rfl
                      rotate_left
                      · simp only [Act.put, List.setIfInBounds_toArray, List.set_cons_zero, List.set_cons_succ, i64_w, i32_w]
                        rfl
                      refine take_ (i := 16) (N := some 40) (v := ?_) (a' := ?_) #[true, true, true, true, true, false, false, false, true, true, false, false, true, true, true, true, true, false, false, false, false, false] rfl rfl (take_ofW HT_.out HW_.out (by kernel_rfl)) (fun _ _ _ h => h) (Or.inl ⟨by rfl, ?_⟩) hHeld ?_ ?_
                      rotate_left
                      · rintro w' ⟨s0, s1, s2, s3, s4, s5, s6, s7, s8, s9, s10, s11, s12, s13, s14⟩
                        go_simp
                        with_reducible rfl
                      rotate_left
                      · simp only [Act.put, List.setIfInBounds_toArray, List.set_cons_zero, List.set_cons_succ, i64_w, i32_w]
                        rfl
                      refine one_ (i := 5) (N := some 29) #[true, true, true, true, true, true, false, false, true, true, false, false, true, true, true, true, true, false, false, false, false, false] rfl rfl (one_of HT_.out (by kernel_rfl)) (by decide) (fun K hK => ?_)
                      refine goes_ Tryd.func34 (by kernel_rfl) rfl #[.agg #[.string a0_0, .string a0_1, .int .i64 a0_2, .int .i64 a0_3, .slice (some ad136) l0_4.length c0_4]] (by rfl) rfl rfl (by (try simp only [List.map_toArray, List.map_cons, List.map_nil]); first | done | rfl | (simp only [List.length_drop, List.length_take]; rfl)) ?_
                      with_reducible refine (sift_rank.calls a0_0 a0_1 a0_2 a0_3 _ _ l0_4 t137 _ ?side1 ?side2 A9.out).mono ?_
                      (case side1 => repeat (first | exact (Kd.C_below HR0_4.out HB.out) | (with_reducible refine Kd.C_alloc ?_ _) | (with_reducible refine Kd.C_drewN ?_ _) | (with_reducible refine Kd.C_drew ?_)))
                      (case side2 => exact HC0_4.out)
                      rintro e w30 ⟨rfl, hb⟩
                      refine ⟨_, rfl, ?_⟩
                      have n0_ := Aside0.mk (blk_below (g := gb135) (o := .cells #[.string a0_0, .string a0_1, .int .i64 a0_2, .int .i64 a0_3, .slice (some ad136) l0_4.length c0_4] 24 (0, 0)) (by (with_reducible repeat (first | refine blk_drewN ?_ _ | refine blk_drew ?_ | refine blk_alloc ?_ _)); exact BK135.out) hb)
                      have n1_ := Aside0.mk (below_step (by repeat (first | (with_reducible first | exact HB.out | apply below_alloc | apply pw_below_drewN | apply below_drew1 | refine below_set ?_ GE135.out) | exact HB.out)) hb)
                      clear BK135
                      clear HB
                      have BK135 := n0_
                      have HB := n1_
                      clear n0_ n1_
                      (try clear hb)
                      (try clear hb2)
                      (try clear hk)
                      (try clear hi)
                      refine hK.out _ _ ⟨(blk_cell BK135.out 0).trans rfl, (blk_cell BK135.out 1).trans rfl, (blk_cell BK135.out 2).trans rfl, (blk_cell BK135.out 3).trans rfl, (blk_cell BK135.out 4).trans rfl, ((HB.out.cell (World.block_lt_of_cell? w _ hw136_0)).trans hw136_0), ((HB.out.cell (World.block_lt_of_cell? w _ hw136_1)).trans hw136_1), ((HB.out.cell (World.block_lt_of_cell? w _ hw136_2)).trans hw136_2), ((HB.out.cell (World.block_lt_of_cell? w _ hw136_3)).trans hw136_3), ((HB.out.cell (World.block_lt_of_cell? w _ hw136_4)).trans hw136_4), ((HB.out.cell (World.block_lt_of_cell? w _ hw139_0)).trans hw139_0), ((HB.out.cell (World.block_lt_of_cell? w _ hw139_1)).trans hw139_1), ((HB.out.cell (World.block_lt_of_cell? w _ hw139_2)).trans hw139_2), ((HB.out.cell (World.block_lt_of_cell? w _ hw139_3)).trans hw139_3), ((HB.out.cell (World.block_lt_of_cell? w _ hw139_4)).trans hw139_4)⟩ (fun hHeld => ?_)
                      clear hK K
                      refine norm_ (a' := ?_) ?_ ?_
                      rotate_left
                      · show Act.put _ (some 29) _ = _
                        simp only [Act.put, List.setIfInBounds_toArray, List.set_cons_zero, List.set_cons_succ, i64_w, i32_w]
                        rfl
                      refine one_ (i := 6) (N := some 30) #[true, true, true, true, true, true, true, false, true, true, false, false, true, true, true, true, true, false, false, false, false, false] rfl rfl (one_of HT_.out (by kernel_rfl)) (by decide) (fun K hK => ?_)
                      refine goes_ Tryd.func19 (by kernel_rfl) rfl #[.agg #[.string ((rd_T24 l0_4 0).f0), .string ((rd_T24 l0_4 0).f1), .int .i64 ((rd_T24 l0_4 0).f2), .int .i64 ((rd_T24 l0_4 0).f3), .slice A136_4 ((rd_T24 l0_4 0).f4).length c136_4], .int .i64 t137] (by rfl) rfl rfl (by (try simp only [List.map_toArray, List.map_cons, List.map_nil]); first | done | rfl | (simp only [List.length_drop, List.length_take]; rfl)) ?_
                      with_reducible refine (ih (hP := Pows.below hP (by repeat (first | (with_reducible first | exact HB.out | apply below_alloc | apply pw_below_drewN | apply below_drew1) | exact HB.out | exact Below.refl _ _))) kj2 (by have := HJ2.out; omega) ((rd_T24 l0_4 0).f0) ((rd_T24 l0_4 0).f1) ((rd_T24 l0_4 0).f2) ((rd_T24 l0_4 0).f3) _ _ ((rd_T24 l0_4 0).f4) t137 t138 _ ?side1 ?side2 A10.out).mono ?_
                      (case side1 => repeat (first | exact (Kd.C_below HR136_4.out HB.out) | (with_reducible refine Kd.C_alloc ?_ _) | (with_reducible refine Kd.C_drewN ?_ _) | (with_reducible refine Kd.C_drew ?_)))
                      (case side2 => exact HC136_4.out)
                      rintro e w31 ⟨rfl, hb⟩
                      refine ⟨_, rfl, ?_⟩
                      have n0_ := Aside0.mk (blk_below (g := gb135) (o := .cells #[.string a0_0, .string a0_1, .int .i64 a0_2, .int .i64 a0_3, .slice (some ad136) l0_4.length c0_4] 24 (0, 0)) (by (with_reducible repeat (first | refine blk_drewN ?_ _ | refine blk_drew ?_ | refine blk_alloc ?_ _)); exact BK135.out) hb)
                      have n1_ := Aside0.mk (below_step (by repeat (first | (with_reducible first | exact HB.out | apply below_alloc | apply pw_below_drewN | apply below_drew1 | refine below_set ?_ GE135.out) | exact HB.out)) hb)
                      clear BK135
                      clear HB
                      have BK135 := n0_
                      have HB := n1_
                      clear n0_ n1_
                      (try clear hb)
                      (try clear hb2)
                      (try clear hk)
                      (try clear hi)
                      refine hK.out _ _ ⟨(blk_cell BK135.out 0).trans rfl, (blk_cell BK135.out 1).trans rfl, (blk_cell BK135.out 2).trans rfl, (blk_cell BK135.out 3).trans rfl, (blk_cell BK135.out 4).trans rfl, ((HB.out.cell (World.block_lt_of_cell? w _ hw136_0)).trans hw136_0), ((HB.out.cell (World.block_lt_of_cell? w _ hw136_1)).trans hw136_1), ((HB.out.cell (World.block_lt_of_cell? w _ hw136_2)).trans hw136_2), ((HB.out.cell (World.block_lt_of_cell? w _ hw136_3)).trans hw136_3), ((HB.out.cell (World.block_lt_of_cell? w _ hw136_4)).trans hw136_4), ((HB.out.cell (World.block_lt_of_cell? w _ hw139_0)).trans hw139_0), ((HB.out.cell (World.block_lt_of_cell? w _ hw139_1)).trans hw139_1), ((HB.out.cell (World.block_lt_of_cell? w _ hw139_2)).trans hw139_2), ((HB.out.cell (World.block_lt_of_cell? w _ hw139_3)).trans hw139_3), ((HB.out.cell (World.block_lt_of_cell? w _ hw139_4)).trans hw139_4)⟩ (fun hHeld => ?_)
                      clear hK K
                      refine norm_ (a' := ?_) ?_ ?_
                      rotate_left
                      · show Act.put _ (some 30) _ = _
                        simp only [Act.put, List.setIfInBounds_toArray, List.set_cons_zero, List.set_cons_succ, i64_w, i32_w]
                        rfl
                      refine pure_ (i := 7) (N := some 31) (v := ?_) (a' := ?_) #[true, true, true, true, true, true, true, true, true, true, false, false, true, true, true, true, true, false, false, false, false, false] rfl rfl (any_of HT_.out (by kernel_rfl)) (fun _ _ _ h => h) (Or.inl ⟨by rfl, ?_⟩) ?_ ?_
                      rotate_left
                      · intro w'
                        go_simp
                        with_reducible rfl
                      rotate_left
                      · simp only [Act.put, List.setIfInBounds_toArray, List.set_cons_zero, List.set_cons_succ, i64_w, i32_w]
                        rfl
                      refine pure_ (i := 10) (N := some 34) (v := ?_) (a' := ?_) #[true, true, true, true, true, true, true, true, true, true, true, false, true, true, true, true, true, false, false, false, false, false] rfl rfl (any_of HT_.out (by kernel_rfl)) (fun _ _ _ h => h) (Or.inl ⟨by rfl, ?_⟩) ?_ ?_
                      rotate_left
                      · intro w'
                        go_simp
                        with_reducible rfl
                      rotate_left
                      · simp only [Act.put, List.setIfInBounds_toArray, List.set_cons_zero, List.set_cons_succ, i64_w, i32_w]
                        rfl
                      refine pure_ (i := 11) (N := some 35) (v := ?_) (a' := ?_) #[true, true, true, true, true, true, true, true, true, true, true, true, true, true, true, true, true, false, false, false, false, false] rfl rfl (any_of HT_.out (by kernel_rfl)) (fun _ _ _ h => h) (Or.inl ⟨by rfl, ?_⟩) ?_ ?_
                      rotate_left
                      · intro w'
                        go_simp
                        with_reducible rfl
                      rotate_left
                      · simp only [Act.put, List.setIfInBounds_toArray, List.set_cons_zero, List.set_cons_succ, i64_w, i32_w]
                        rfl
                      refine one_ (i := 17) (N := some 41) #[true, true, true, true, true, true, true, true, true, true, true, true, true, true, true, true, true, true, false, false, false, false] rfl rfl (one_of HT_.out (by kernel_rfl)) (by decide) (fun K hK => ?_)
                      refine goes_ Tryd.func34 (by kernel_rfl) rfl #[.agg #[.string a0_0, .string a0_1, .int .i64 a0_2, .int .i64 a0_3, .slice (some ad136) l0_4.length c0_4]] (by rfl) rfl rfl (by (try simp only [List.map_toArray, List.map_cons, List.map_nil]); first | done | rfl | (simp only [List.length_drop, List.length_take]; rfl)) ?_
                      with_reducible refine (sift_rank.calls a0_0 a0_1 a0_2 a0_3 _ _ l0_4 t140 _ ?side1 ?side2 A15.out).mono ?_
                      (case side1 => repeat (first | exact (Kd.C_below HR0_4.out HB.out) | (with_reducible refine Kd.C_alloc ?_ _) | (with_reducible refine Kd.C_drewN ?_ _) | (with_reducible refine Kd.C_drew ?_)))
                      (case side2 => exact HC0_4.out)
                      rintro e w32 ⟨rfl, hb⟩
                      refine ⟨_, rfl, ?_⟩
                      have n0_ := Aside0.mk (blk_below (g := gb135) (o := .cells #[.string a0_0, .string a0_1, .int .i64 a0_2, .int .i64 a0_3, .slice (some ad136) l0_4.length c0_4] 24 (0, 0)) (by (with_reducible repeat (first | refine blk_drewN ?_ _ | refine blk_drew ?_ | refine blk_alloc ?_ _)); exact BK135.out) hb)
                      have n1_ := Aside0.mk (below_step (by repeat (first | (with_reducible first | exact HB.out | apply below_alloc | apply pw_below_drewN | apply below_drew1 | refine below_set ?_ GE135.out) | exact HB.out)) hb)
                      clear BK135
                      clear HB
                      have BK135 := n0_
                      have HB := n1_
                      clear n0_ n1_
                      (try clear hb)
                      (try clear hb2)
                      (try clear hk)
                      (try clear hi)
                      refine hK.out _ _ ⟨(blk_cell BK135.out 0).trans rfl, (blk_cell BK135.out 1).trans rfl, (blk_cell BK135.out 2).trans rfl, (blk_cell BK135.out 3).trans rfl, (blk_cell BK135.out 4).trans rfl, ((HB.out.cell (World.block_lt_of_cell? w _ hw136_0)).trans hw136_0), ((HB.out.cell (World.block_lt_of_cell? w _ hw136_1)).trans hw136_1), ((HB.out.cell (World.block_lt_of_cell? w _ hw136_2)).trans hw136_2), ((HB.out.cell (World.block_lt_of_cell? w _ hw136_3)).trans hw136_3), ((HB.out.cell (World.block_lt_of_cell? w _ hw136_4)).trans hw136_4), ((HB.out.cell (World.block_lt_of_cell? w _ hw139_0)).trans hw139_0), ((HB.out.cell (World.block_lt_of_cell? w _ hw139_1)).trans hw139_1), ((HB.out.cell (World.block_lt_of_cell? w _ hw139_2)).trans hw139_2), ((HB.out.cell (World.block_lt_of_cell? w _ hw139_3)).trans hw139_3), ((HB.out.cell (World.block_lt_of_cell? w _ hw139_4)).trans hw139_4)⟩ (fun hHeld => ?_)
                      clear hK K
                      refine norm_ (a' := ?_) ?_ ?_
                      rotate_left
                      · show Act.put _ (some 41) _ = _
                        simp only [Act.put, List.setIfInBounds_toArray, List.set_cons_zero, List.set_cons_succ, i64_w, i32_w]
                        rfl
                      refine pure_ (i := 18) (N := some 42) (v := ?_) (a' := ?_) #[true, true, true, true, true, true, true, true, true, true, true, true, true, true, true, true, true, true, true, false, false, false] rfl rfl (any_of HT_.out (by kernel_rfl)) (fun _ _ _ h => h) (Or.inl ⟨by rfl, ?_⟩) ?_ ?_
                      rotate_left
                      · intro w'
                        go_simp
                        with_reducible rfl
                      rotate_left
                      · simp only [Act.put, List.setIfInBounds_toArray, List.set_cons_zero, List.set_cons_succ, i64_w, i32_w]
                        rfl
                      refine one_ (i := 19) (N := some 43) #[true, true, true, true, true, true, true, true, true, true, true, true, true, true, true, true, true, true, true, true, false, false] rfl rfl (one_of HT_.out (by kernel_rfl)) (by decide) (fun K hK => ?_)
                      refine goes_ Tryd.func19 (by kernel_rfl) rfl #[.agg #[.string ((rd_T24 l0_4 1).f0), .string ((rd_T24 l0_4 1).f1), .int .i64 ((rd_T24 l0_4 1).f2), .int .i64 ((rd_T24 l0_4 1).f3), .slice A139_4 ((rd_T24 l0_4 1).f4).length c139_4], .int .i64 (wrap64 (t140 + 1))] (by rfl) rfl rfl (by (try simp only [List.map_toArray, List.map_cons, List.map_nil]); first | done | rfl | (simp only [List.length_drop, List.length_take]; rfl)) ?_
                      with_reducible refine (ih (hP := Pows.below hP (by repeat (first | (with_reducible first | exact HB.out | apply below_alloc | apply pw_below_drewN | apply below_drew1) | exact HB.out | exact Below.refl _ _))) kj2 (by have := HJ2.out; omega) ((rd_T24 l0_4 1).f0) ((rd_T24 l0_4 1).f1) ((rd_T24 l0_4 1).f2) ((rd_T24 l0_4 1).f3) _ _ ((rd_T24 l0_4 1).f4) (wrap64 (t140 + 1)) t141 _ ?side1 ?side2 A16.out).mono ?_
                      (case side1 => repeat (first | exact (Kd.C_below HR139_4.out HB.out) | (with_reducible refine Kd.C_alloc ?_ _) | (with_reducible refine Kd.C_drewN ?_ _) | (with_reducible refine Kd.C_drew ?_)))
                      (case side2 => exact HC139_4.out)
                      rintro e w33 ⟨rfl, hb⟩
                      refine ⟨_, rfl, ?_⟩
                      have n0_ := Aside0.mk (blk_below (g := gb135) (o := .cells #[.string a0_0, .string a0_1, .int .i64 a0_2, .int .i64 a0_3, .slice (some ad136) l0_4.length c0_4] 24 (0, 0)) (by (with_reducible repeat (first | refine blk_drewN ?_ _ | refine blk_drew ?_ | refine blk_alloc ?_ _)); exact BK135.out) hb)
                      have n1_ := Aside0.mk (below_step (by repeat (first | (with_reducible first | exact HB.out | apply below_alloc | apply pw_below_drewN | apply below_drew1 | refine below_set ?_ GE135.out) | exact HB.out)) hb)
                      clear BK135
                      clear HB
                      have BK135 := n0_
                      have HB := n1_
                      clear n0_ n1_
                      (try clear hb)
                      (try clear hb2)
                      (try clear hk)
                      (try clear hi)
                      refine hK.out _ _ ⟨(blk_cell BK135.out 0).trans rfl, (blk_cell BK135.out 1).trans rfl, (blk_cell BK135.out 2).trans rfl, (blk_cell BK135.out 3).trans rfl, (blk_cell BK135.out 4).trans rfl, ((HB.out.cell (World.block_lt_of_cell? w _ hw136_0)).trans hw136_0), ((HB.out.cell (World.block_lt_of_cell? w _ hw136_1)).trans hw136_1), ((HB.out.cell (World.block_lt_of_cell? w _ hw136_2)).trans hw136_2), ((HB.out.cell (World.block_lt_of_cell? w _ hw136_3)).trans hw136_3), ((HB.out.cell (World.block_lt_of_cell? w _ hw136_4)).trans hw136_4), ((HB.out.cell (World.block_lt_of_cell? w _ hw139_0)).trans hw139_0), ((HB.out.cell (World.block_lt_of_cell? w _ hw139_1)).trans hw139_1), ((HB.out.cell (World.block_lt_of_cell? w _ hw139_2)).trans hw139_2), ((HB.out.cell (World.block_lt_of_cell? w _ hw139_3)).trans hw139_3), ((HB.out.cell (World.block_lt_of_cell? w _ hw139_4)).trans hw139_4)⟩ (fun hHeld => ?_)
                      clear hK K
                      refine norm_ (a' := ?_) ?_ ?_
                      rotate_left
                      · show Act.put _ (some 43) _ = _
                        simp only [Act.put, List.setIfInBounds_toArray, List.set_cons_zero, List.set_cons_succ, i64_w, i32_w]
                        rfl
                      refine pure_ (i := 20) (N := some 44) (v := ?_) (a' := ?_) #[true, true, true, true, true, true, true, true, true, true, true, true, true, true, true, true, true, true, true, true, true, false] rfl rfl (any_of HT_.out (by kernel_rfl)) (fun _ _ _ h => h) (Or.inl ⟨by rfl, ?_⟩) ?_ ?_
                      rotate_left
                      · intro w'
                        go_simp
                        with_reducible rfl
                      rotate_left
                      · simp only [Act.put, List.setIfInBounds_toArray, List.set_cons_zero, List.set_cons_succ, i64_w, i32_w]
                        rfl
                      refine pure_ (i := 21) (N := some 5) (v := ?_) (a' := ?_) #[true, true, true, true, true, true, true, true, true, true, true, true, true, true, true, true, true, true, true, true, true, true] rfl rfl (any_of HT_.out (by kernel_rfl)) (fun _ _ _ h => h) (Or.inl ⟨by rfl, ?_⟩) ?_ ?_
                      rotate_left
                      · intro w'
                        go_simp
                        with_reducible rfl
                      rotate_left
                      · simp only [Act.put, List.setIfInBounds_toArray, List.set_cons_zero, List.set_cons_succ, i64_w, i32_w]
                        rfl
                      refine done_ (done_of HT_.out (by kernel_rfl)) ?_
                      have hcz34_0 : w33.cell? ⟨gb135, 0, none⟩ = some (.string a0_0) := (blk_cell BK135.out 0).trans rfl
                      have hcz34_1 : w33.cell? ⟨gb135, 1, none⟩ = some (.string a0_1) := (blk_cell BK135.out 1).trans rfl
                      have hcz34_2 : w33.cell? ⟨gb135, 2, none⟩ = some (.int .i64 a0_2) := (blk_cell BK135.out 2).trans rfl
                      have hcz34_3 : w33.cell? ⟨gb135, 3, none⟩ = some (.int .i64 a0_3) := (blk_cell BK135.out 3).trans rfl
                      have hcz34_4 : w33.cell? ⟨gb135, 4, none⟩ = some (.slice (some ad136) l0_4.length c0_4) := (blk_cell BK135.out 4).trans rfl
                      have hfz34_0 := blk_frozen BK135.out 0
                      have hfz34_1 := blk_frozen BK135.out 1
                      have hfz34_2 := blk_frozen BK135.out 2
                      have hfz34_3 := blk_frozen BK135.out 3
                      have hfz34_4 := blk_frozen BK135.out 4
                      try go_wp2_with (first | ((with_reducible refine gate_callee (f := 34) rfl ?_); refine goesL_ (some 71) rfl rfl Tryd.func34 (by kernel_rfl) rfl #[.agg #[.string a0_0, .string a0_1, .int .i64 a0_2, .int .i64 a0_3, .slice (some ad136) l0_4.length c0_4]] rfl (by (try simp only [List.map_toArray, List.map_cons, List.map_nil]); first | done | rfl | (simp only [List.length_drop, List.length_take]; rfl)) ?_; (with_reducible refine (sift_rank.calls a0_0 a0_1 a0_2 a0_3 _ _ l0_4 t142 _ ?side1 ?side2 A18.out).mono ?_); (case side1 => repeat (first | exact (Kd.C_below HR0_4.out HB.out) | (with_reducible refine Kd.C_alloc ?_ _) | (with_reducible refine Kd.C_drewN ?_ _) | (with_reducible refine Kd.C_drew ?_))); (case side2 => exact HC0_4.out); rintro e w35 ⟨rfl, hb⟩; refine ⟨_, rfl, ?_⟩; have n0_ := Aside0.mk (blk_below (g := gb135) (o := .cells #[.string a0_0, .string a0_1, .int .i64 a0_2, .int .i64 a0_3, .slice (some ad136) l0_4.length c0_4] 24 (0, 0)) (by (with_reducible repeat (first | refine blk_drewN ?_ _ | refine blk_drew ?_ | refine blk_alloc ?_ _)); exact BK135.out) hb); have n1_ := Aside0.mk (below_step (by repeat (first | (with_reducible first | exact HB.out | apply below_alloc | apply pw_below_drewN | apply below_drew1 | refine below_set ?_ GE135.out) | exact HB.out)) hb); clear BK135; clear HB; have BK135 := n0_; have HB := n1_; clear n0_ n1_; (try clear hb); (try clear hb2); (try clear hk); (try clear hi)))
                      go_ret
                      exact ⟨by first | rfl | (simp [errW_none, errW_some] <;> rfl) | (simp [*, errW_none, errW_some] <;> rfl), by repeat (first | (with_reducible first | exact HB.out | apply below_alloc | apply pw_below_drewN | apply below_drew1 | refine below_set ?_ GE135.out) | exact HB.out)⟩
                  · rw [if_neg c17] at H
                    exact absurd H (by simp)
                · rw [if_neg c14] at H
                  exact absurd H (by simp)
              · rw [if_neg c13] at H
                exact absurd H (by simp)
            · rw [if_neg c12] at H
              exact absurd H (by simp)
          · rw [if_neg c11] at H
            exact absurd H (by simp)
        · rw [if_neg c8] at H
          exact absurd H (by simp)
      · replace c7 := Bool.eq_false_iff.mpr c7
        subst c7
        have H1 : (if a0_0.toList = ([110, 111, 116] : List UInt8) then (if 0 < (l0_4.length : Int) then ((sift_printed.f kj2 ((rd_T24 l0_4 0).f0) ((rd_T24 l0_4 0).f1) ((rd_T24 l0_4 0).f2) ((rd_T24 l0_4 0).f3) ((rd_T24 l0_4 0).f4) 2).bind fun t144 => (if 4 + t144.size ≤ 9223372036854775807 then ((sift_rank.f a0_0 a0_1 a0_2 a0_3 l0_4).bind fun t145 => (if t145 < a1 then (if 1 + ((⟨#[110, 111, 116, 32]⟩ : ByteArray) ++ t144).size ≤ 9223372036854775807 then (if ((⟨#[40]⟩ : ByteArray) ++ ((⟨#[110, 111, 116, 32]⟩ : ByteArray) ++ t144)).size + 1 ≤ 9223372036854775807 then (some (((⟨#[40]⟩ : ByteArray) ++ ((⟨#[110, 111, 116, 32]⟩ : ByteArray) ++ t144)) ++ (⟨#[41]⟩ : ByteArray))) else (none)) else (none)) else (some ((⟨#[110, 111, 116, 32]⟩ : ByteArray) ++ t144)))) else (none))) else (none)) else (if a0_0.toList = ([105, 110] : List UInt8) then ((addr_PrintPrefix.f kj2 ((a0_2) % 4294967296) a0_3).bind fun bt146 => (if a0_1.size + 4 ≤ 9223372036854775807 then (if (a0_1 ++ (⟨#[32, 105, 110, 32]⟩ : ByteArray)).size + bt146.1.size ≤ 9223372036854775807 then ((sift_rank.f a0_0 a0_1 a0_2 a0_3 l0_4).bind fun t148 => (if t148 < a1 then (if 1 + ((a0_1 ++ (⟨#[32, 105, 110, 32]⟩ : ByteArray)) ++ bt146.1).size ≤ 9223372036854775807 then (if ((⟨#[40]⟩ : ByteArray) ++ ((a0_1 ++ (⟨#[32, 105, 110, 32]⟩ : ByteArray)) ++ bt146.1)).size + 1 ≤ 9223372036854775807 then (some (((⟨#[40]⟩ : ByteArray) ++ ((a0_1 ++ (⟨#[32, 105, 110, 32]⟩ : ByteArray)) ++ bt146.1)) ++ (⟨#[41]⟩ : ByteArray))) else (none)) else (none)) else (some ((a0_1 ++ (⟨#[32, 105, 110, 32]⟩ : ByteArray)) ++ bt146.1)))) else (none)) else (none))) else (if a0_1.size + 1 ≤ 9223372036854775807 then (if (a0_1 ++ (⟨#[32]⟩ : ByteArray)).size + a0_0.size ≤ 9223372036854775807 then (if ((a0_1 ++ (⟨#[32]⟩ : ByteArray)) ++ a0_0).size + 1 ≤ 9223372036854775807 then ((strconv_Itoa.f a0_2).bind fun t149 => (if (((a0_1 ++ (⟨#[32]⟩ : ByteArray)) ++ a0_0) ++ (⟨#[32]⟩ : ByteArray)).size + t149.size ≤ 9223372036854775807 then ((sift_rank.f a0_0 a0_1 a0_2 a0_3 l0_4).bind fun t150 => (if t150 < a1 then (if 1 + ((((a0_1 ++ (⟨#[32]⟩ : ByteArray)) ++ a0_0) ++ (⟨#[32]⟩ : ByteArray)) ++ t149).size ≤ 9223372036854775807 then (if ((⟨#[40]⟩ : ByteArray) ++ ((((a0_1 ++ (⟨#[32]⟩ : ByteArray)) ++ a0_0) ++ (⟨#[32]⟩ : ByteArray)) ++ t149)).size + 1 ≤ 9223372036854775807 then (some (((⟨#[40]⟩ : ByteArray) ++ ((((a0_1 ++ (⟨#[32]⟩ : ByteArray)) ++ a0_0) ++ (⟨#[32]⟩ : ByteArray)) ++ t149)) ++ (⟨#[41]⟩ : ByteArray))) else (none)) else (none)) else (some ((((a0_1 ++ (⟨#[32]⟩ : ByteArray)) ++ a0_0) ++ (⟨#[32]⟩ : ByteArray)) ++ t149)))) else (none))) else (none)) else (none)) else (none)))) = some r := by rw [if_neg (show ¬ (false = true) by decide)] at H; exact H
        clear H
        have H := H1
        clear H1
        by_cases c36 : a0_0.toList = ([110, 111, 116] : List UInt8)
        · rw [if_pos c36] at H
          have c36b0 : (a0_0.toList == ([110, 111, 116] : List UInt8)) = true := beq_iff_eq.mpr c36
          have c36b1 : (a0_0.toList != ([110, 111, 116] : List UInt8)) = false := bne_eq_false_iff_eq.mpr c36
          clear c36
          by_cases c37 : 0 < (l0_4.length : Int)
          · rw [if_pos c37] at H
            have c37b0 : decide (0 < (l0_4.length : Int)) = true := decide_eq_true c37
            have c37b1 : decide (0 < l0_4.length) = true := decide_eq_true (by omega)
            clear c37
            replace H := Option.bind_eq_some_iff.mp H
            obtain ⟨t144, A380, H⟩ := H
            replace H : (if 4 + t144.size ≤ 9223372036854775807 then ((sift_rank.f a0_0 a0_1 a0_2 a0_3 l0_4).bind fun t145 => (if t145 < a1 then (if 1 + ((⟨#[110, 111, 116, 32]⟩ : ByteArray) ++ t144).size ≤ 9223372036854775807 then (if ((⟨#[40]⟩ : ByteArray) ++ ((⟨#[110, 111, 116, 32]⟩ : ByteArray) ++ t144)).size + 1 ≤ 9223372036854775807 then (some (((⟨#[40]⟩ : ByteArray) ++ ((⟨#[110, 111, 116, 32]⟩ : ByteArray) ++ t144)) ++ (⟨#[41]⟩ : ByteArray))) else (none)) else (none)) else (some ((⟨#[110, 111, 116, 32]⟩ : ByteArray) ++ t144)))) else (none)) = some r := H
            have A38 := Aside0.mk A380
            clear A380
            by_cases c39 : 4 + t144.size ≤ 9223372036854775807
            · rw [if_pos c39] at H
              have c39b0 := eq_true c39
              have c39b1 : decide (4 + t144.size ≤ 9223372036854775807) = true := decide_eq_true c39
              try have c39b2 : (9223372036854775807 < 4 + t144.size) = False := eq_false (Nat.not_lt.2 c39)
              replace H := Option.bind_eq_some_iff.mp H
              obtain ⟨t145, A400, H⟩ := H
              replace H : (if t145 < a1 then (if 1 + ((⟨#[110, 111, 116, 32]⟩ : ByteArray) ++ t144).size ≤ 9223372036854775807 then (if ((⟨#[40]⟩ : ByteArray) ++ ((⟨#[110, 111, 116, 32]⟩ : ByteArray) ++ t144)).size + 1 ≤ 9223372036854775807 then (some (((⟨#[40]⟩ : ByteArray) ++ ((⟨#[110, 111, 116, 32]⟩ : ByteArray) ++ t144)) ++ (⟨#[41]⟩ : ByteArray))) else (none)) else (none)) else (some ((⟨#[110, 111, 116, 32]⟩ : ByteArray) ++ t144))) = some r := H
              have A40 := Aside0.mk A400
              clear A400
              by_cases c41 : t145 < a1
              · rw [if_pos c41] at H
                have c41b0 : decide (t145 < a1) = true := decide_eq_true c41
                clear c41
                by_cases c42 : 1 + ((⟨#[110, 111, 116, 32]⟩ : ByteArray) ++ t144).size ≤ 9223372036854775807
                · rw [if_pos c42] at H
                  have c42b0 := eq_true c42
                  have c42b1 : decide (1 + ((⟨#[110, 111, 116, 32]⟩ : ByteArray) ++ t144).size ≤ 9223372036854775807) = true := decide_eq_true c42
                  try have c42b2 : (9223372036854775807 < 1 + ((⟨#[110, 111, 116, 32]⟩ : ByteArray) ++ t144).size) = False := eq_false (Nat.not_lt.2 c42)
                  try (have c42b4 := c42b2; simp only [ByteArray.size_append, show (⟨#[110, 111, 116, 32]⟩ : ByteArray).size = 4 from rfl] at c42b4)
                  try (have c42b5 := c42b2; simp only [ByteArray.size_append, show (⟨#[110, 111, 116, 32]⟩ : ByteArray).size = 4 from rfl, Nat.add_assoc, Nat.reduceAdd] at c42b5)
                  try (have c42b3 := c42b2; simp only [ByteArray.size_append] at c42b3)
                  by_cases c43 : ((⟨#[40]⟩ : ByteArray) ++ ((⟨#[110, 111, 116, 32]⟩ : ByteArray) ++ t144)).size + 1 ≤ 9223372036854775807
                  · rw [if_pos c43] at H
                    have c43b0 := eq_true c43
                    have c43b1 : decide (((⟨#[40]⟩ : ByteArray) ++ ((⟨#[110, 111, 116, 32]⟩ : ByteArray) ++ t144)).size + 1 ≤ 9223372036854775807) = true := decide_eq_true c43
                    try have c43b2 : (9223372036854775807 < ((⟨#[40]⟩ : ByteArray) ++ ((⟨#[110, 111, 116, 32]⟩ : ByteArray) ++ t144)).size + 1) = False := eq_false (Nat.not_lt.2 c43)
                    try (have c43b4 := c43b2; simp only [ByteArray.size_append, show (⟨#[110, 111, 116, 32]⟩ : ByteArray).size = 4 from rfl, show (⟨#[40]⟩ : ByteArray).size = 1 from rfl] at c43b4)
                    try (have c43b5 := c43b2; simp only [ByteArray.size_append, show (⟨#[110, 111, 116, 32]⟩ : ByteArray).size = 4 from rfl, show (⟨#[40]⟩ : ByteArray).size = 1 from rfl, Nat.add_assoc, Nat.reduceAdd] at c43b5)
                    try (have c43b3 := c43b2; simp only [ByteArray.size_append] at c43b3)
                    obtain rfl := Option.some.inj H
                    have hcz44_0 : wc.cell? ⟨gb135, 0, none⟩ = some (.string a0_0) := (blk_cell BK135.out 0).trans rfl
                    have hcz44_1 : wc.cell? ⟨gb135, 1, none⟩ = some (.string a0_1) := (blk_cell BK135.out 1).trans rfl
                    have hcz44_2 : wc.cell? ⟨gb135, 2, none⟩ = some (.int .i64 a0_2) := (blk_cell BK135.out 2).trans rfl
                    have hcz44_3 : wc.cell? ⟨gb135, 3, none⟩ = some (.int .i64 a0_3) := (blk_cell BK135.out 3).trans rfl
                    have hcz44_4 : wc.cell? ⟨gb135, 4, none⟩ = some (.slice A0_4 l0_4.length c0_4) := (blk_cell BK135.out 4).trans rfl
                    have hfz44_0 := blk_frozen BK135.out 0
                    have hfz44_1 := blk_frozen BK135.out 1
                    have hfz44_2 := blk_frozen BK135.out 2
                    have hfz44_3 := blk_frozen BK135.out 3
                    have hfz44_4 := blk_frozen BK135.out 4
                    have p143 : 0 ≤ (0 : Int) := (by omega)
                    have q143 : 0 < (l0_4.length : Int) := of_decide_eq_true (by first | (with_reducible assumption) | assumption)
                    obtain ⟨ad143, A143_4, c143_4, e143, hx143_0, hx143_1, hx143_2, hx143_3, hx143_4, hl143_4, hi143_4⟩ := at_T24 HR0_4.out 0 p143 q143
                    cases e143
                    have qi143 : (0 < l0_4.length) = True := eq_true (by omega)
                    (try rw [show ((0 : Int)).toNat = 0 from rfl] at hx143_0)
                    (try rw [show 0 * 5 = 0 from rfl] at hx143_0)
                    (try rw [Addr.add_zero'] at hx143_0)
                    (try rw [show ((0 : Int)).toNat = 0 from rfl] at hx143_1)
                    (try rw [show 0 * 5 = 0 from rfl] at hx143_1)
                    (try rw [Addr.add_zero'] at hx143_1)
                    (try rw [show ((0 : Int)).toNat = 0 from rfl] at hx143_2)
                    (try rw [show 0 * 5 = 0 from rfl] at hx143_2)
                    (try rw [Addr.add_zero'] at hx143_2)
                    (try rw [show ((0 : Int)).toNat = 0 from rfl] at hx143_3)
                    (try rw [show 0 * 5 = 0 from rfl] at hx143_3)
                    (try rw [Addr.add_zero'] at hx143_3)
                    (try rw [show ((0 : Int)).toNat = 0 from rfl] at hx143_4)
                    (try rw [show 0 * 5 = 0 from rfl] at hx143_4)
                    (try rw [Addr.add_zero'] at hx143_4)
                    replace hx143_0 := (HB.out.cell (World.block_lt_of_cell? w _ hx143_0)).trans hx143_0
                    replace hx143_1 := (HB.out.cell (World.block_lt_of_cell? w _ hx143_1)).trans hx143_1
                    replace hx143_2 := (HB.out.cell (World.block_lt_of_cell? w _ hx143_2)).trans hx143_2
                    replace hx143_3 := (HB.out.cell (World.block_lt_of_cell? w _ hx143_3)).trans hx143_3
                    replace hx143_4 := (HB.out.cell (World.block_lt_of_cell? w _ hx143_4)).trans hx143_4
                    have HR143_4 := Aside0.mk hi143_4
                    have HC143_4 := Aside0.mk hl143_4
                    clear hi143_4 hl143_4
                    replace p143 := eq_true p143
                    replace q143 := eq_true q143
                    go_wp2_with (first | ((with_reducible refine gate_callee (f := 19) rfl ?_); refine goesL_ (some 51) rfl rfl Tryd.func19 (by kernel_rfl) rfl #[.agg #[.string ((rd_T24 l0_4 0).f0), .string ((rd_T24 l0_4 0).f1), .int .i64 ((rd_T24 l0_4 0).f2), .int .i64 ((rd_T24 l0_4 0).f3), .slice A143_4 ((rd_T24 l0_4 0).f4).length c143_4], .int .i64 2] rfl (by (try simp only [List.map_toArray, List.map_cons, List.map_nil]); first | done | rfl | (simp only [List.length_drop, List.length_take]; rfl)) ?_; (with_reducible refine (ih (hP := Pows.below hP (by repeat (first | (with_reducible first | exact HB.out | apply below_alloc | apply pw_below_drewN | apply below_drew1) | exact HB.out | exact Below.refl _ _))) kj2 (by have := HJ2.out; omega) ((rd_T24 l0_4 0).f0) ((rd_T24 l0_4 0).f1) ((rd_T24 l0_4 0).f2) ((rd_T24 l0_4 0).f3) _ _ ((rd_T24 l0_4 0).f4) 2 t144 _ ?side1 ?side2 A38.out).mono ?_); (case side1 => repeat (first | exact (Kd.C_below HR143_4.out HB.out) | (with_reducible refine Kd.C_alloc ?_ _) | (with_reducible refine Kd.C_drewN ?_ _) | (with_reducible refine Kd.C_drew ?_))); (case side2 => exact HC143_4.out); rintro e w45 ⟨rfl, hb⟩; refine ⟨_, rfl, ?_⟩; have n0_ := Aside0.mk (blk_below (g := gb135) (o := .cells #[.string a0_0, .string a0_1, .int .i64 a0_2, .int .i64 a0_3, .slice (some ad143) l0_4.length c0_4] 24 (0, 0)) (by (with_reducible repeat (first | refine blk_drewN ?_ _ | refine blk_drew ?_ | refine blk_alloc ?_ _)); exact BK135.out) hb); have n1_ := Aside0.mk (below_step (by repeat (first | (with_reducible first | exact HB.out | apply below_alloc | apply pw_below_drewN | apply below_drew1 | refine below_set ?_ GE135.out) | exact HB.out)) hb); clear BK135; clear HB; have BK135 := n0_; have HB := n1_; clear n0_ n1_; (try clear hb); (try clear hb2); (try clear hk); (try clear hi); have hcz46_0 : w45.cell? ⟨gb135, 0, none⟩ = some (.string a0_0) := (blk_cell BK135.out 0).trans rfl; have hcz46_1 : w45.cell? ⟨gb135, 1, none⟩ = some (.string a0_1) := (blk_cell BK135.out 1).trans rfl; have hcz46_2 : w45.cell? ⟨gb135, 2, none⟩ = some (.int .i64 a0_2) := (blk_cell BK135.out 2).trans rfl; have hcz46_3 : w45.cell? ⟨gb135, 3, none⟩ = some (.int .i64 a0_3) := (blk_cell BK135.out 3).trans rfl; have hcz46_4 : w45.cell? ⟨gb135, 4, none⟩ = some (.slice (some ad143) l0_4.length c0_4) := (blk_cell BK135.out 4).trans rfl; have hfz46_0 := blk_frozen BK135.out 0; have hfz46_1 := blk_frozen BK135.out 1; have hfz46_2 := blk_frozen BK135.out 2; have hfz46_3 := blk_frozen BK135.out 3; have hfz46_4 := blk_frozen BK135.out 4) | ((with_reducible refine gate_callee (f := 34) rfl ?_); refine goesL_ (some 71) rfl rfl Tryd.func34 (by kernel_rfl) rfl #[.agg #[.string a0_0, .string a0_1, .int .i64 a0_2, .int .i64 a0_3, .slice (some ad143) l0_4.length c0_4]] rfl (by (try simp only [List.map_toArray, List.map_cons, List.map_nil]); first | done | rfl | (simp only [List.length_drop, List.length_take]; rfl)) ?_; (with_reducible refine (sift_rank.calls a0_0 a0_1 a0_2 a0_3 _ _ l0_4 t145 _ ?side1 ?side2 A40.out).mono ?_); (case side1 => repeat (first | exact (Kd.C_below HR0_4.out HB.out) | (with_reducible refine Kd.C_alloc ?_ _) | (with_reducible refine Kd.C_drewN ?_ _) | (with_reducible refine Kd.C_drew ?_))); (case side2 => exact HC0_4.out); rintro e w47 ⟨rfl, hb⟩; refine ⟨_, rfl, ?_⟩; have n0_ := Aside0.mk (blk_below (g := gb135) (o := .cells #[.string a0_0, .string a0_1, .int .i64 a0_2, .int .i64 a0_3, .slice (some ad143) l0_4.length c0_4] 24 (0, 0)) (by (with_reducible repeat (first | refine blk_drewN ?_ _ | refine blk_drew ?_ | refine blk_alloc ?_ _)); exact BK135.out) hb); have n1_ := Aside0.mk (below_step (by repeat (first | (with_reducible first | exact HB.out | apply below_alloc | apply pw_below_drewN | apply below_drew1 | refine below_set ?_ GE135.out) | exact HB.out)) hb); clear BK135; clear HB; have BK135 := n0_; have HB := n1_; clear n0_ n1_; (try clear hb); (try clear hb2); (try clear hk); (try clear hi)))
                    go_ret
                    exact ⟨by first | rfl | (simp [errW_none, errW_some] <;> rfl) | (simp [*, errW_none, errW_some] <;> rfl), by repeat (first | (with_reducible first | exact HB.out | apply below_alloc | apply pw_below_drewN | apply below_drew1 | refine below_set ?_ GE135.out) | exact HB.out)⟩
                  · rw [if_neg c43] at H
                    exact absurd H (by simp)
                · rw [if_neg c42] at H
                  exact absurd H (by simp)
              · rw [if_neg c41] at H
                have c41b0 : decide (t145 < a1) = false := decide_eq_false c41
                clear c41
                obtain rfl := Option.some.inj H
                have hcz48_0 : wc.cell? ⟨gb135, 0, none⟩ = some (.string a0_0) := (blk_cell BK135.out 0).trans rfl
                have hcz48_1 : wc.cell? ⟨gb135, 1, none⟩ = some (.string a0_1) := (blk_cell BK135.out 1).trans rfl
                have hcz48_2 : wc.cell? ⟨gb135, 2, none⟩ = some (.int .i64 a0_2) := (blk_cell BK135.out 2).trans rfl
                have hcz48_3 : wc.cell? ⟨gb135, 3, none⟩ = some (.int .i64 a0_3) := (blk_cell BK135.out 3).trans rfl
                have hcz48_4 : wc.cell? ⟨gb135, 4, none⟩ = some (.slice A0_4 l0_4.length c0_4) := (blk_cell BK135.out 4).trans rfl
                have hfz48_0 := blk_frozen BK135.out 0
                have hfz48_1 := blk_frozen BK135.out 1
                have hfz48_2 := blk_frozen BK135.out 2
                have hfz48_3 := blk_frozen BK135.out 3
                have hfz48_4 := blk_frozen BK135.out 4
                have p143 : 0 ≤ (0 : Int) := (by omega)
                have q143 : 0 < (l0_4.length : Int) := of_decide_eq_true (by first | (with_reducible assumption) | assumption)
                obtain ⟨ad143, A143_4, c143_4, e143, hx143_0, hx143_1, hx143_2, hx143_3, hx143_4, hl143_4, hi143_4⟩ := at_T24 HR0_4.out 0 p143 q143
                cases e143
                have qi143 : (0 < l0_4.length) = True := eq_true (by omega)
                (try rw [show ((0 : Int)).toNat = 0 from rfl] at hx143_0)
                (try rw [show 0 * 5 = 0 from rfl] at hx143_0)
                (try rw [Addr.add_zero'] at hx143_0)
                (try rw [show ((0 : Int)).toNat = 0 from rfl] at hx143_1)
                (try rw [show 0 * 5 = 0 from rfl] at hx143_1)
                (try rw [Addr.add_zero'] at hx143_1)
                (try rw [show ((0 : Int)).toNat = 0 from rfl] at hx143_2)
                (try rw [show 0 * 5 = 0 from rfl] at hx143_2)
                (try rw [Addr.add_zero'] at hx143_2)
                (try rw [show ((0 : Int)).toNat = 0 from rfl] at hx143_3)
                (try rw [show 0 * 5 = 0 from rfl] at hx143_3)
                (try rw [Addr.add_zero'] at hx143_3)
                (try rw [show ((0 : Int)).toNat = 0 from rfl] at hx143_4)
                (try rw [show 0 * 5 = 0 from rfl] at hx143_4)
                (try rw [Addr.add_zero'] at hx143_4)
                replace hx143_0 := (HB.out.cell (World.block_lt_of_cell? w _ hx143_0)).trans hx143_0
                replace hx143_1 := (HB.out.cell (World.block_lt_of_cell? w _ hx143_1)).trans hx143_1
                replace hx143_2 := (HB.out.cell (World.block_lt_of_cell? w _ hx143_2)).trans hx143_2
                replace hx143_3 := (HB.out.cell (World.block_lt_of_cell? w _ hx143_3)).trans hx143_3
                replace hx143_4 := (HB.out.cell (World.block_lt_of_cell? w _ hx143_4)).trans hx143_4
                have HR143_4 := Aside0.mk hi143_4
                have HC143_4 := Aside0.mk hl143_4
                clear hi143_4 hl143_4
                replace p143 := eq_true p143
                replace q143 := eq_true q143
                go_wp2_with (first | ((with_reducible refine gate_callee (f := 19) rfl ?_); refine goesL_ (some 51) rfl rfl Tryd.func19 (by kernel_rfl) rfl #[.agg #[.string ((rd_T24 l0_4 0).f0), .string ((rd_T24 l0_4 0).f1), .int .i64 ((rd_T24 l0_4 0).f2), .int .i64 ((rd_T24 l0_4 0).f3), .slice A143_4 ((rd_T24 l0_4 0).f4).length c143_4], .int .i64 2] rfl (by (try simp only [List.map_toArray, List.map_cons, List.map_nil]); first | done | rfl | (simp only [List.length_drop, List.length_take]; rfl)) ?_; (with_reducible refine (ih (hP := Pows.below hP (by repeat (first | (with_reducible first | exact HB.out | apply below_alloc | apply pw_below_drewN | apply below_drew1) | exact HB.out | exact Below.refl _ _))) kj2 (by have := HJ2.out; omega) ((rd_T24 l0_4 0).f0) ((rd_T24 l0_4 0).f1) ((rd_T24 l0_4 0).f2) ((rd_T24 l0_4 0).f3) _ _ ((rd_T24 l0_4 0).f4) 2 t144 _ ?side1 ?side2 A38.out).mono ?_); (case side1 => repeat (first | exact (Kd.C_below HR143_4.out HB.out) | (with_reducible refine Kd.C_alloc ?_ _) | (with_reducible refine Kd.C_drewN ?_ _) | (with_reducible refine Kd.C_drew ?_))); (case side2 => exact HC143_4.out); rintro e w49 ⟨rfl, hb⟩; refine ⟨_, rfl, ?_⟩; have n0_ := Aside0.mk (blk_below (g := gb135) (o := .cells #[.string a0_0, .string a0_1, .int .i64 a0_2, .int .i64 a0_3, .slice (some ad143) l0_4.length c0_4] 24 (0, 0)) (by (with_reducible repeat (first | refine blk_drewN ?_ _ | refine blk_drew ?_ | refine blk_alloc ?_ _)); exact BK135.out) hb); have n1_ := Aside0.mk (below_step (by repeat (first | (with_reducible first | exact HB.out | apply below_alloc | apply pw_below_drewN | apply below_drew1 | refine below_set ?_ GE135.out) | exact HB.out)) hb); clear BK135; clear HB; have BK135 := n0_; have HB := n1_; clear n0_ n1_; (try clear hb); (try clear hb2); (try clear hk); (try clear hi); have hcz50_0 : w49.cell? ⟨gb135, 0, none⟩ = some (.string a0_0) := (blk_cell BK135.out 0).trans rfl; have hcz50_1 : w49.cell? ⟨gb135, 1, none⟩ = some (.string a0_1) := (blk_cell BK135.out 1).trans rfl; have hcz50_2 : w49.cell? ⟨gb135, 2, none⟩ = some (.int .i64 a0_2) := (blk_cell BK135.out 2).trans rfl; have hcz50_3 : w49.cell? ⟨gb135, 3, none⟩ = some (.int .i64 a0_3) := (blk_cell BK135.out 3).trans rfl; have hcz50_4 : w49.cell? ⟨gb135, 4, none⟩ = some (.slice (some ad143) l0_4.length c0_4) := (blk_cell BK135.out 4).trans rfl; have hfz50_0 := blk_frozen BK135.out 0; have hfz50_1 := blk_frozen BK135.out 1; have hfz50_2 := blk_frozen BK135.out 2; have hfz50_3 := blk_frozen BK135.out 3; have hfz50_4 := blk_frozen BK135.out 4) | ((with_reducible refine gate_callee (f := 34) rfl ?_); refine goesL_ (some 71) rfl rfl Tryd.func34 (by kernel_rfl) rfl #[.agg #[.string a0_0, .string a0_1, .int .i64 a0_2, .int .i64 a0_3, .slice (some ad143) l0_4.length c0_4]] rfl (by (try simp only [List.map_toArray, List.map_cons, List.map_nil]); first | done | rfl | (simp only [List.length_drop, List.length_take]; rfl)) ?_; (with_reducible refine (sift_rank.calls a0_0 a0_1 a0_2 a0_3 _ _ l0_4 t145 _ ?side1 ?side2 A40.out).mono ?_); (case side1 => repeat (first | exact (Kd.C_below HR0_4.out HB.out) | (with_reducible refine Kd.C_alloc ?_ _) | (with_reducible refine Kd.C_drewN ?_ _) | (with_reducible refine Kd.C_drew ?_))); (case side2 => exact HC0_4.out); rintro e w51 ⟨rfl, hb⟩; refine ⟨_, rfl, ?_⟩; have n0_ := Aside0.mk (blk_below (g := gb135) (o := .cells #[.string a0_0, .string a0_1, .int .i64 a0_2, .int .i64 a0_3, .slice (some ad143) l0_4.length c0_4] 24 (0, 0)) (by (with_reducible repeat (first | refine blk_drewN ?_ _ | refine blk_drew ?_ | refine blk_alloc ?_ _)); exact BK135.out) hb); have n1_ := Aside0.mk (below_step (by repeat (first | (with_reducible first | exact HB.out | apply below_alloc | apply pw_below_drewN | apply below_drew1 | refine below_set ?_ GE135.out) | exact HB.out)) hb); clear BK135; clear HB; have BK135 := n0_; have HB := n1_; clear n0_ n1_; (try clear hb); (try clear hb2); (try clear hk); (try clear hi)))
                go_ret
                exact ⟨by first | rfl | (simp [errW_none, errW_some] <;> rfl) | (simp [*, errW_none, errW_some] <;> rfl), by repeat (first | (with_reducible first | exact HB.out | apply below_alloc | apply pw_below_drewN | apply below_drew1 | refine below_set ?_ GE135.out) | exact HB.out)⟩
            · rw [if_neg c39] at H
              exact absurd H (by simp)
          · rw [if_neg c37] at H
            exact absurd H (by simp)
        · rw [if_neg c36] at H
          have c36b0 : (a0_0.toList == ([110, 111, 116] : List UInt8)) = false := beq_eq_false_iff_ne.mpr c36
          have c36b1 : (a0_0.toList != ([110, 111, 116] : List UInt8)) = true := bne_iff_ne.mpr c36
          by_cases c52 : a0_0.toList = ([105, 110] : List UInt8)
          · rw [if_pos c52] at H
            have c52b0 : (a0_0.toList == ([105, 110] : List UInt8)) = true := beq_iff_eq.mpr c52
            have c52b1 : (a0_0.toList != ([105, 110] : List UInt8)) = false := bne_eq_false_iff_eq.mpr c52
            clear c52
            replace H := Option.bind_eq_some_iff.mp H
            obtain ⟨⟨t146, t147⟩, A530, H⟩ := H
            replace H : (if a0_1.size + 4 ≤ 9223372036854775807 then (if (a0_1 ++ (⟨#[32, 105, 110, 32]⟩ : ByteArray)).size + t146.size ≤ 9223372036854775807 then ((sift_rank.f a0_0 a0_1 a0_2 a0_3 l0_4).bind fun t148 => (if t148 < a1 then (if 1 + ((a0_1 ++ (⟨#[32, 105, 110, 32]⟩ : ByteArray)) ++ t146).size ≤ 9223372036854775807 then (if ((⟨#[40]⟩ : ByteArray) ++ ((a0_1 ++ (⟨#[32, 105, 110, 32]⟩ : ByteArray)) ++ t146)).size + 1 ≤ 9223372036854775807 then (some (((⟨#[40]⟩ : ByteArray) ++ ((a0_1 ++ (⟨#[32, 105, 110, 32]⟩ : ByteArray)) ++ t146)) ++ (⟨#[41]⟩ : ByteArray))) else (none)) else (none)) else (some ((a0_1 ++ (⟨#[32, 105, 110, 32]⟩ : ByteArray)) ++ t146)))) else (none)) else (none)) = some r := H
            have A53 := Aside0.mk A530
            clear A530
            by_cases c54 : a0_1.size + 4 ≤ 9223372036854775807
            · rw [if_pos c54] at H
              have c54b0 := eq_true c54
              have c54b1 : decide (a0_1.size + 4 ≤ 9223372036854775807) = true := decide_eq_true c54
              try have c54b2 : (9223372036854775807 < a0_1.size + 4) = False := eq_false (Nat.not_lt.2 c54)
              by_cases c55 : (a0_1 ++ (⟨#[32, 105, 110, 32]⟩ : ByteArray)).size + t146.size ≤ 9223372036854775807
              · rw [if_pos c55] at H
                have c55b0 := eq_true c55
                have c55b1 : decide ((a0_1 ++ (⟨#[32, 105, 110, 32]⟩ : ByteArray)).size + t146.size ≤ 9223372036854775807) = true := decide_eq_true c55
                try have c55b2 : (9223372036854775807 < (a0_1 ++ (⟨#[32, 105, 110, 32]⟩ : ByteArray)).size + t146.size) = False := eq_false (Nat.not_lt.2 c55)
                try (have c55b4 := c55b2; simp only [ByteArray.size_append, show (⟨#[32, 105, 110, 32]⟩ : ByteArray).size = 4 from rfl] at c55b4)
                try (have c55b5 := c55b2; simp only [ByteArray.size_append, show (⟨#[32, 105, 110, 32]⟩ : ByteArray).size = 4 from rfl, Nat.add_assoc, Nat.reduceAdd] at c55b5)
                try (have c55b3 := c55b2; simp only [ByteArray.size_append] at c55b3)
                replace H := Option.bind_eq_some_iff.mp H
                obtain ⟨t148, A560, H⟩ := H
                replace H : (if t148 < a1 then (if 1 + ((a0_1 ++ (⟨#[32, 105, 110, 32]⟩ : ByteArray)) ++ t146).size ≤ 9223372036854775807 then (if ((⟨#[40]⟩ : ByteArray) ++ ((a0_1 ++ (⟨#[32, 105, 110, 32]⟩ : ByteArray)) ++ t146)).size + 1 ≤ 9223372036854775807 then (some (((⟨#[40]⟩ : ByteArray) ++ ((a0_1 ++ (⟨#[32, 105, 110, 32]⟩ : ByteArray)) ++ t146)) ++ (⟨#[41]⟩ : ByteArray))) else (none)) else (none)) else (some ((a0_1 ++ (⟨#[32, 105, 110, 32]⟩ : ByteArray)) ++ t146))) = some r := H
                have A56 := Aside0.mk A560
                clear A560
                by_cases c57 : t148 < a1
                · rw [if_pos c57] at H
                  have c57b0 : decide (t148 < a1) = true := decide_eq_true c57
                  clear c57
                  by_cases c58 : 1 + ((a0_1 ++ (⟨#[32, 105, 110, 32]⟩ : ByteArray)) ++ t146).size ≤ 9223372036854775807
                  · rw [if_pos c58] at H
                    have c58b0 := eq_true c58
                    have c58b1 : decide (1 + ((a0_1 ++ (⟨#[32, 105, 110, 32]⟩ : ByteArray)) ++ t146).size ≤ 9223372036854775807) = true := decide_eq_true c58
                    try have c58b2 : (9223372036854775807 < 1 + ((a0_1 ++ (⟨#[32, 105, 110, 32]⟩ : ByteArray)) ++ t146).size) = False := eq_false (Nat.not_lt.2 c58)
                    try (have c58b4 := c58b2; simp only [ByteArray.size_append, show (⟨#[32, 105, 110, 32]⟩ : ByteArray).size = 4 from rfl] at c58b4)
                    try (have c58b5 := c58b2; simp only [ByteArray.size_append, show (⟨#[32, 105, 110, 32]⟩ : ByteArray).size = 4 from rfl, Nat.add_assoc, Nat.reduceAdd] at c58b5)
                    try (have c58b3 := c58b2; simp only [ByteArray.size_append] at c58b3)
                    by_cases c59 : ((⟨#[40]⟩ : ByteArray) ++ ((a0_1 ++ (⟨#[32, 105, 110, 32]⟩ : ByteArray)) ++ t146)).size + 1 ≤ 9223372036854775807
                    · rw [if_pos c59] at H
                      have c59b0 := eq_true c59
                      have c59b1 : decide (((⟨#[40]⟩ : ByteArray) ++ ((a0_1 ++ (⟨#[32, 105, 110, 32]⟩ : ByteArray)) ++ t146)).size + 1 ≤ 9223372036854775807) = true := decide_eq_true c59
                      try have c59b2 : (9223372036854775807 < ((⟨#[40]⟩ : ByteArray) ++ ((a0_1 ++ (⟨#[32, 105, 110, 32]⟩ : ByteArray)) ++ t146)).size + 1) = False := eq_false (Nat.not_lt.2 c59)
                      try (have c59b4 := c59b2; simp only [ByteArray.size_append, show (⟨#[32, 105, 110, 32]⟩ : ByteArray).size = 4 from rfl, show (⟨#[40]⟩ : ByteArray).size = 1 from rfl] at c59b4)
                      try (have c59b5 := c59b2; simp only [ByteArray.size_append, show (⟨#[32, 105, 110, 32]⟩ : ByteArray).size = 4 from rfl, show (⟨#[40]⟩ : ByteArray).size = 1 from rfl, Nat.add_assoc, Nat.reduceAdd] at c59b5)
                      try (have c59b3 := c59b2; simp only [ByteArray.size_append] at c59b3)
                      obtain rfl := Option.some.inj H
                      have hcz60_0 : wc.cell? ⟨gb135, 0, none⟩ = some (.string a0_0) := (blk_cell BK135.out 0).trans rfl
                      have hcz60_1 : wc.cell? ⟨gb135, 1, none⟩ = some (.string a0_1) := (blk_cell BK135.out 1).trans rfl
                      have hcz60_2 : wc.cell? ⟨gb135, 2, none⟩ = some (.int .i64 a0_2) := (blk_cell BK135.out 2).trans rfl
                      have hcz60_3 : wc.cell? ⟨gb135, 3, none⟩ = some (.int .i64 a0_3) := (blk_cell BK135.out 3).trans rfl
                      have hcz60_4 : wc.cell? ⟨gb135, 4, none⟩ = some (.slice A0_4 l0_4.length c0_4) := (blk_cell BK135.out 4).trans rfl
                      have hfz60_0 := blk_frozen BK135.out 0
                      have hfz60_1 := blk_frozen BK135.out 1
                      have hfz60_2 := blk_frozen BK135.out 2
                      have hfz60_3 := blk_frozen BK135.out 3
                      have hfz60_4 := blk_frozen BK135.out 4
                      go_wp2_with (first | ((with_reducible refine gate_callee (f := 35) rfl ?_); refine goesL_ (some 62) rfl rfl Tryd.func35 (by kernel_rfl) rfl #[.agg #[.int .u32 ((a0_2) % 4294967296), .int .i64 a0_3]] rfl (by (try simp only [List.map_toArray, List.map_cons, List.map_nil]); first | done | rfl | (simp only [List.length_drop, List.length_take]; rfl)) ?_; (with_reducible refine (addr_PrintPrefix.calls (hP := Pows.below hP (by repeat (first | (with_reducible first | exact HB.out | apply below_alloc | apply pw_below_drewN | apply below_drew1) | exact HB.out | exact Below.refl _ _))) kj2 ((a0_2) % 4294967296) a0_3 t146 t147 _ A53.out).mono ?_); rintro e w61 ⟨rfl, hb⟩; refine ⟨_, rfl, ?_⟩; have n0_ := Aside0.mk (blk_below (g := gb135) (o := .cells #[.string a0_0, .string a0_1, .int .i64 a0_2, .int .i64 a0_3, .slice A0_4 l0_4.length c0_4] 24 (0, 0)) (by (with_reducible repeat (first | refine blk_drewN ?_ _ | refine blk_drew ?_ | refine blk_alloc ?_ _)); exact BK135.out) hb); have n1_ := Aside0.mk (below_step (by repeat (first | (with_reducible first | exact HB.out | apply below_alloc | apply pw_below_drewN | apply below_drew1 | refine below_set ?_ GE135.out) | exact HB.out)) hb); clear BK135; clear HB; have BK135 := n0_; have HB := n1_; clear n0_ n1_; (try clear hb); (try clear hb2); (try clear hk); (try clear hi); have hcz62_0 : w61.cell? ⟨gb135, 0, none⟩ = some (.string a0_0) := (blk_cell BK135.out 0).trans rfl; have hcz62_1 : w61.cell? ⟨gb135, 1, none⟩ = some (.string a0_1) := (blk_cell BK135.out 1).trans rfl; have hcz62_2 : w61.cell? ⟨gb135, 2, none⟩ = some (.int .i64 a0_2) := (blk_cell BK135.out 2).trans rfl; have hcz62_3 : w61.cell? ⟨gb135, 3, none⟩ = some (.int .i64 a0_3) := (blk_cell BK135.out 3).trans rfl; have hcz62_4 : w61.cell? ⟨gb135, 4, none⟩ = some (.slice A0_4 l0_4.length c0_4) := (blk_cell BK135.out 4).trans rfl; have hfz62_0 := blk_frozen BK135.out 0; have hfz62_1 := blk_frozen BK135.out 1; have hfz62_2 := blk_frozen BK135.out 2; have hfz62_3 := blk_frozen BK135.out 3; have hfz62_4 := blk_frozen BK135.out 4) | ((with_reducible refine gate_callee (f := 34) rfl ?_); refine goesL_ (some 71) rfl rfl Tryd.func34 (by kernel_rfl) rfl #[.agg #[.string a0_0, .string a0_1, .int .i64 a0_2, .int .i64 a0_3, .slice A0_4 l0_4.length c0_4]] rfl (by (try simp only [List.map_toArray, List.map_cons, List.map_nil]); first | done | rfl | (simp only [List.length_drop, List.length_take]; rfl)) ?_; (with_reducible refine (sift_rank.calls a0_0 a0_1 a0_2 a0_3 _ _ l0_4 t148 _ ?side1 ?side2 A56.out).mono ?_); (case side1 => repeat (first | exact (Kd.C_below HR0_4.out HB.out) | (with_reducible refine Kd.C_alloc ?_ _) | (with_reducible refine Kd.C_drewN ?_ _) | (with_reducible refine Kd.C_drew ?_))); (case side2 => exact HC0_4.out); rintro e w63 ⟨rfl, hb⟩; refine ⟨_, rfl, ?_⟩; have n0_ := Aside0.mk (blk_below (g := gb135) (o := .cells #[.string a0_0, .string a0_1, .int .i64 a0_2, .int .i64 a0_3, .slice A0_4 l0_4.length c0_4] 24 (0, 0)) (by (with_reducible repeat (first | refine blk_drewN ?_ _ | refine blk_drew ?_ | refine blk_alloc ?_ _)); exact BK135.out) hb); have n1_ := Aside0.mk (below_step (by repeat (first | (with_reducible first | exact HB.out | apply below_alloc | apply pw_below_drewN | apply below_drew1 | refine below_set ?_ GE135.out) | exact HB.out)) hb); clear BK135; clear HB; have BK135 := n0_; have HB := n1_; clear n0_ n1_; (try clear hb); (try clear hb2); (try clear hk); (try clear hi)))
                      go_ret
                      exact ⟨by first | rfl | (simp [errW_none, errW_some] <;> rfl) | (simp [*, errW_none, errW_some] <;> rfl), by repeat (first | (with_reducible first | exact HB.out | apply below_alloc | apply pw_below_drewN | apply below_drew1 | refine below_set ?_ GE135.out) | exact HB.out)⟩
                    · rw [if_neg c59] at H
                      exact absurd H (by simp)
                  · rw [if_neg c58] at H
                    exact absurd H (by simp)
                · rw [if_neg c57] at H
                  have c57b0 : decide (t148 < a1) = false := decide_eq_false c57
                  clear c57
                  obtain rfl := Option.some.inj H
                  have hcz64_0 : wc.cell? ⟨gb135, 0, none⟩ = some (.string a0_0) := (blk_cell BK135.out 0).trans rfl
                  have hcz64_1 : wc.cell? ⟨gb135, 1, none⟩ = some (.string a0_1) := (blk_cell BK135.out 1).trans rfl
                  have hcz64_2 : wc.cell? ⟨gb135, 2, none⟩ = some (.int .i64 a0_2) := (blk_cell BK135.out 2).trans rfl
                  have hcz64_3 : wc.cell? ⟨gb135, 3, none⟩ = some (.int .i64 a0_3) := (blk_cell BK135.out 3).trans rfl
                  have hcz64_4 : wc.cell? ⟨gb135, 4, none⟩ = some (.slice A0_4 l0_4.length c0_4) := (blk_cell BK135.out 4).trans rfl
                  have hfz64_0 := blk_frozen BK135.out 0
                  have hfz64_1 := blk_frozen BK135.out 1
                  have hfz64_2 := blk_frozen BK135.out 2
                  have hfz64_3 := blk_frozen BK135.out 3
                  have hfz64_4 := blk_frozen BK135.out 4
                  go_wp2_with (first | ((with_reducible refine gate_callee (f := 35) rfl ?_); refine goesL_ (some 62) rfl rfl Tryd.func35 (by kernel_rfl) rfl #[.agg #[.int .u32 ((a0_2) % 4294967296), .int .i64 a0_3]] rfl (by (try simp only [List.map_toArray, List.map_cons, List.map_nil]); first | done | rfl | (simp only [List.length_drop, List.length_take]; rfl)) ?_; (with_reducible refine (addr_PrintPrefix.calls (hP := Pows.below hP (by repeat (first | (with_reducible first | exact HB.out | apply below_alloc | apply pw_below_drewN | apply below_drew1) | exact HB.out | exact Below.refl _ _))) kj2 ((a0_2) % 4294967296) a0_3 t146 t147 _ A53.out).mono ?_); rintro e w65 ⟨rfl, hb⟩; refine ⟨_, rfl, ?_⟩; have n0_ := Aside0.mk (blk_below (g := gb135) (o := .cells #[.string a0_0, .string a0_1, .int .i64 a0_2, .int .i64 a0_3, .slice A0_4 l0_4.length c0_4] 24 (0, 0)) (by (with_reducible repeat (first | refine blk_drewN ?_ _ | refine blk_drew ?_ | refine blk_alloc ?_ _)); exact BK135.out) hb); have n1_ := Aside0.mk (below_step (by repeat (first | (with_reducible first | exact HB.out | apply below_alloc | apply pw_below_drewN | apply below_drew1 | refine below_set ?_ GE135.out) | exact HB.out)) hb); clear BK135; clear HB; have BK135 := n0_; have HB := n1_; clear n0_ n1_; (try clear hb); (try clear hb2); (try clear hk); (try clear hi); have hcz66_0 : w65.cell? ⟨gb135, 0, none⟩ = some (.string a0_0) := (blk_cell BK135.out 0).trans rfl; have hcz66_1 : w65.cell? ⟨gb135, 1, none⟩ = some (.string a0_1) := (blk_cell BK135.out 1).trans rfl; have hcz66_2 : w65.cell? ⟨gb135, 2, none⟩ = some (.int .i64 a0_2) := (blk_cell BK135.out 2).trans rfl; have hcz66_3 : w65.cell? ⟨gb135, 3, none⟩ = some (.int .i64 a0_3) := (blk_cell BK135.out 3).trans rfl; have hcz66_4 : w65.cell? ⟨gb135, 4, none⟩ = some (.slice A0_4 l0_4.length c0_4) := (blk_cell BK135.out 4).trans rfl; have hfz66_0 := blk_frozen BK135.out 0; have hfz66_1 := blk_frozen BK135.out 1; have hfz66_2 := blk_frozen BK135.out 2; have hfz66_3 := blk_frozen BK135.out 3; have hfz66_4 := blk_frozen BK135.out 4) | ((with_reducible refine gate_callee (f := 34) rfl ?_); refine goesL_ (some 71) rfl rfl Tryd.func34 (by kernel_rfl) rfl #[.agg #[.string a0_0, .string a0_1, .int .i64 a0_2, .int .i64 a0_3, .slice A0_4 l0_4.length c0_4]] rfl (by (try simp only [List.map_toArray, List.map_cons, List.map_nil]); first | done | rfl | (simp only [List.length_drop, List.length_take]; rfl)) ?_; (with_reducible refine (sift_rank.calls a0_0 a0_1 a0_2 a0_3 _ _ l0_4 t148 _ ?side1 ?side2 A56.out).mono ?_); (case side1 => repeat (first | exact (Kd.C_below HR0_4.out HB.out) | (with_reducible refine Kd.C_alloc ?_ _) | (with_reducible refine Kd.C_drewN ?_ _) | (with_reducible refine Kd.C_drew ?_))); (case side2 => exact HC0_4.out); rintro e w67 ⟨rfl, hb⟩; refine ⟨_, rfl, ?_⟩; have n0_ := Aside0.mk (blk_below (g := gb135) (o := .cells #[.string a0_0, .string a0_1, .int .i64 a0_2, .int .i64 a0_3, .slice A0_4 l0_4.length c0_4] 24 (0, 0)) (by (with_reducible repeat (first | refine blk_drewN ?_ _ | refine blk_drew ?_ | refine blk_alloc ?_ _)); exact BK135.out) hb); have n1_ := Aside0.mk (below_step (by repeat (first | (with_reducible first | exact HB.out | apply below_alloc | apply pw_below_drewN | apply below_drew1 | refine below_set ?_ GE135.out) | exact HB.out)) hb); clear BK135; clear HB; have BK135 := n0_; have HB := n1_; clear n0_ n1_; (try clear hb); (try clear hb2); (try clear hk); (try clear hi)))
                  go_ret
                  exact ⟨by first | rfl | (simp [errW_none, errW_some] <;> rfl) | (simp [*, errW_none, errW_some] <;> rfl), by repeat (first | (with_reducible first | exact HB.out | apply below_alloc | apply pw_below_drewN | apply below_drew1 | refine below_set ?_ GE135.out) | exact HB.out)⟩
              · rw [if_neg c55] at H
                exact absurd H (by simp)
            · rw [if_neg c54] at H
              exact absurd H (by simp)
          · rw [if_neg c52] at H
            have c52b0 : (a0_0.toList == ([105, 110] : List UInt8)) = false := beq_eq_false_iff_ne.mpr c52
            have c52b1 : (a0_0.toList != ([105, 110] : List UInt8)) = true := bne_iff_ne.mpr c52
            by_cases c68 : a0_1.size + 1 ≤ 9223372036854775807
            · rw [if_pos c68] at H
              have c68b0 := eq_true c68
              have c68b1 : decide (a0_1.size + 1 ≤ 9223372036854775807) = true := decide_eq_true c68
              try have c68b2 : (9223372036854775807 < a0_1.size + 1) = False := eq_false (Nat.not_lt.2 c68)
              by_cases c69 : (a0_1 ++ (⟨#[32]⟩ : ByteArray)).size + a0_0.size ≤ 9223372036854775807
              · rw [if_pos c69] at H
                have c69b0 := eq_true c69
                have c69b1 : decide ((a0_1 ++ (⟨#[32]⟩ : ByteArray)).size + a0_0.size ≤ 9223372036854775807) = true := decide_eq_true c69
                try have c69b2 : (9223372036854775807 < (a0_1 ++ (⟨#[32]⟩ : ByteArray)).size + a0_0.size) = False := eq_false (Nat.not_lt.2 c69)
                try (have c69b4 := c69b2; simp only [ByteArray.size_append, show (⟨#[32]⟩ : ByteArray).size = 1 from rfl] at c69b4)
                try (have c69b5 := c69b2; simp only [ByteArray.size_append, show (⟨#[32]⟩ : ByteArray).size = 1 from rfl, Nat.add_assoc, Nat.reduceAdd] at c69b5)
                try (have c69b3 := c69b2; simp only [ByteArray.size_append] at c69b3)
                by_cases c70 : ((a0_1 ++ (⟨#[32]⟩ : ByteArray)) ++ a0_0).size + 1 ≤ 9223372036854775807
                · rw [if_pos c70] at H
                  have c70b0 := eq_true c70
                  have c70b1 : decide (((a0_1 ++ (⟨#[32]⟩ : ByteArray)) ++ a0_0).size + 1 ≤ 9223372036854775807) = true := decide_eq_true c70
                  try have c70b2 : (9223372036854775807 < ((a0_1 ++ (⟨#[32]⟩ : ByteArray)) ++ a0_0).size + 1) = False := eq_false (Nat.not_lt.2 c70)
                  try (have c70b4 := c70b2; simp only [ByteArray.size_append, show (⟨#[32]⟩ : ByteArray).size = 1 from rfl] at c70b4)
                  try (have c70b5 := c70b2; simp only [ByteArray.size_append, show (⟨#[32]⟩ : ByteArray).size = 1 from rfl, Nat.add_assoc, Nat.reduceAdd] at c70b5)
                  try (have c70b3 := c70b2; simp only [ByteArray.size_append] at c70b3)
                  replace H := Option.bind_eq_some_iff.mp H
                  obtain ⟨t149, A710, H⟩ := H
                  replace H : (if (((a0_1 ++ (⟨#[32]⟩ : ByteArray)) ++ a0_0) ++ (⟨#[32]⟩ : ByteArray)).size + t149.size ≤ 9223372036854775807 then ((sift_rank.f a0_0 a0_1 a0_2 a0_3 l0_4).bind fun t150 => (if t150 < a1 then (if 1 + ((((a0_1 ++ (⟨#[32]⟩ : ByteArray)) ++ a0_0) ++ (⟨#[32]⟩ : ByteArray)) ++ t149).size ≤ 9223372036854775807 then (if ((⟨#[40]⟩ : ByteArray) ++ ((((a0_1 ++ (⟨#[32]⟩ : ByteArray)) ++ a0_0) ++ (⟨#[32]⟩ : ByteArray)) ++ t149)).size + 1 ≤ 9223372036854775807 then (some (((⟨#[40]⟩ : ByteArray) ++ ((((a0_1 ++ (⟨#[32]⟩ : ByteArray)) ++ a0_0) ++ (⟨#[32]⟩ : ByteArray)) ++ t149)) ++ (⟨#[41]⟩ : ByteArray))) else (none)) else (none)) else (some ((((a0_1 ++ (⟨#[32]⟩ : ByteArray)) ++ a0_0) ++ (⟨#[32]⟩ : ByteArray)) ++ t149)))) else (none)) = some r := H
                  have A71 := Aside0.mk A710
                  clear A710
                  by_cases c72 : (((a0_1 ++ (⟨#[32]⟩ : ByteArray)) ++ a0_0) ++ (⟨#[32]⟩ : ByteArray)).size + t149.size ≤ 9223372036854775807
                  · rw [if_pos c72] at H
                    have c72b0 := eq_true c72
                    have c72b1 : decide ((((a0_1 ++ (⟨#[32]⟩ : ByteArray)) ++ a0_0) ++ (⟨#[32]⟩ : ByteArray)).size + t149.size ≤ 9223372036854775807) = true := decide_eq_true c72
                    try have c72b2 : (9223372036854775807 < (((a0_1 ++ (⟨#[32]⟩ : ByteArray)) ++ a0_0) ++ (⟨#[32]⟩ : ByteArray)).size + t149.size) = False := eq_false (Nat.not_lt.2 c72)
                    try (have c72b4 := c72b2; simp only [ByteArray.size_append, show (⟨#[32]⟩ : ByteArray).size = 1 from rfl] at c72b4)
                    try (have c72b5 := c72b2; simp only [ByteArray.size_append, show (⟨#[32]⟩ : ByteArray).size = 1 from rfl, Nat.add_assoc, Nat.reduceAdd] at c72b5)
                    try (have c72b3 := c72b2; simp only [ByteArray.size_append] at c72b3)
                    replace H := Option.bind_eq_some_iff.mp H
                    obtain ⟨t150, A730, H⟩ := H
                    replace H : (if t150 < a1 then (if 1 + ((((a0_1 ++ (⟨#[32]⟩ : ByteArray)) ++ a0_0) ++ (⟨#[32]⟩ : ByteArray)) ++ t149).size ≤ 9223372036854775807 then (if ((⟨#[40]⟩ : ByteArray) ++ ((((a0_1 ++ (⟨#[32]⟩ : ByteArray)) ++ a0_0) ++ (⟨#[32]⟩ : ByteArray)) ++ t149)).size + 1 ≤ 9223372036854775807 then (some (((⟨#[40]⟩ : ByteArray) ++ ((((a0_1 ++ (⟨#[32]⟩ : ByteArray)) ++ a0_0) ++ (⟨#[32]⟩ : ByteArray)) ++ t149)) ++ (⟨#[41]⟩ : ByteArray))) else (none)) else (none)) else (some ((((a0_1 ++ (⟨#[32]⟩ : ByteArray)) ++ a0_0) ++ (⟨#[32]⟩ : ByteArray)) ++ t149))) = some r := H
                    have A73 := Aside0.mk A730
                    clear A730
                    by_cases c74 : t150 < a1
                    · rw [if_pos c74] at H
                      have c74b0 : decide (t150 < a1) = true := decide_eq_true c74
                      clear c74
                      by_cases c75 : 1 + ((((a0_1 ++ (⟨#[32]⟩ : ByteArray)) ++ a0_0) ++ (⟨#[32]⟩ : ByteArray)) ++ t149).size ≤ 9223372036854775807
                      · rw [if_pos c75] at H
                        have c75b0 := eq_true c75
                        have c75b1 : decide (1 + ((((a0_1 ++ (⟨#[32]⟩ : ByteArray)) ++ a0_0) ++ (⟨#[32]⟩ : ByteArray)) ++ t149).size ≤ 9223372036854775807) = true := decide_eq_true c75
                        try have c75b2 : (9223372036854775807 < 1 + ((((a0_1 ++ (⟨#[32]⟩ : ByteArray)) ++ a0_0) ++ (⟨#[32]⟩ : ByteArray)) ++ t149).size) = False := eq_false (Nat.not_lt.2 c75)
                        try (have c75b4 := c75b2; simp only [ByteArray.size_append, show (⟨#[32]⟩ : ByteArray).size = 1 from rfl] at c75b4)
                        try (have c75b5 := c75b2; simp only [ByteArray.size_append, show (⟨#[32]⟩ : ByteArray).size = 1 from rfl, Nat.add_assoc, Nat.reduceAdd] at c75b5)
                        try (have c75b3 := c75b2; simp only [ByteArray.size_append] at c75b3)
                        by_cases c76 : ((⟨#[40]⟩ : ByteArray) ++ ((((a0_1 ++ (⟨#[32]⟩ : ByteArray)) ++ a0_0) ++ (⟨#[32]⟩ : ByteArray)) ++ t149)).size + 1 ≤ 9223372036854775807
                        · rw [if_pos c76] at H
                          have c76b0 := eq_true c76
                          have c76b1 : decide (((⟨#[40]⟩ : ByteArray) ++ ((((a0_1 ++ (⟨#[32]⟩ : ByteArray)) ++ a0_0) ++ (⟨#[32]⟩ : ByteArray)) ++ t149)).size + 1 ≤ 9223372036854775807) = true := decide_eq_true c76
                          try have c76b2 : (9223372036854775807 < ((⟨#[40]⟩ : ByteArray) ++ ((((a0_1 ++ (⟨#[32]⟩ : ByteArray)) ++ a0_0) ++ (⟨#[32]⟩ : ByteArray)) ++ t149)).size + 1) = False := eq_false (Nat.not_lt.2 c76)
                          try (have c76b4 := c76b2; simp only [ByteArray.size_append, show (⟨#[32]⟩ : ByteArray).size = 1 from rfl, show (⟨#[40]⟩ : ByteArray).size = 1 from rfl] at c76b4)
                          try (have c76b5 := c76b2; simp only [ByteArray.size_append, show (⟨#[32]⟩ : ByteArray).size = 1 from rfl, show (⟨#[40]⟩ : ByteArray).size = 1 from rfl, Nat.add_assoc, Nat.reduceAdd] at c76b5)
                          try (have c76b3 := c76b2; simp only [ByteArray.size_append] at c76b3)
                          obtain rfl := Option.some.inj H
                          try go_wp2
                          have n0_ := Aside0.mk (blk_drew BK135.out)
                          have n1_ := Aside0.mk (below_drew1 HB.out)
                          clear BK135
                          clear HB
                          have BK135 := n0_
                          have HB := n1_
                          clear n0_ n1_
                          refine start_ (n := 12) (S := fun w' => w'.cell? ⟨gb135, 0, none⟩ = some (.string a0_0) ∧ w'.cell? ⟨gb135, 1, none⟩ = some (.string a0_1) ∧ w'.cell? ⟨gb135, 2, none⟩ = some (.int .i64 a0_2) ∧ w'.cell? ⟨gb135, 3, none⟩ = some (.int .i64 a0_3) ∧ w'.cell? ⟨gb135, 4, none⟩ = some (.slice A0_4 l0_4.length c0_4)) (ds := []) #[false, false, false, false, false, false, false, false, false, false, false, false] (by kernel_rfl) rfl rfl ⟨(blk_cell BK135.out 0).trans rfl, (blk_cell BK135.out 1).trans rfl, (blk_cell BK135.out 2).trans rfl, (blk_cell BK135.out 3).trans rfl, (blk_cell BK135.out 4).trans rfl⟩ (fun hHeld => ?_); refine with_tabW sift_printed.tab3 sift_printed.bits3 (fun HT_ HW_ => ?_)
                          generalize wc.drew = w77 at BK135 HB hHeld ⊢
                          refine pure_ (i := 0) (N := some 10) (v := ?_) (a' := ?_) #[true, false, false, false, false, false, false, false, false, false, false, false] rfl rfl (any_of HT_.out (by kernel_rfl)) (fun _ _ _ h => h) (Or.inl ⟨by rfl, ?_⟩) ?_ ?_
                          rotate_left
                          · intro w'
                            go_simp
                            with_reducible rfl
                          rotate_left
                          · simp only [Act.put, List.setIfInBounds_toArray, List.set_cons_zero, List.set_cons_succ, i64_w, i32_w]
                            rfl
                          refine pure_ (i := 3) (N := some 13) (v := ?_) (a' := ?_) #[true, false, false, true, false, false, false, false, false, false, false, false] rfl rfl (any_of HT_.out (by kernel_rfl)) (fun _ _ _ h => h) (Or.inl ⟨by rfl, ?_⟩) ?_ ?_
                          rotate_left
                          · intro w'
                            go_simp
                            with_reducible rfl
                          rotate_left
                          · simp only [Act.put, List.setIfInBounds_toArray, List.set_cons_zero, List.set_cons_succ, i64_w, i32_w]
                            rfl
                          refine pure_ (i := 7) (N := some 17) (v := ?_) (a' := ?_) #[true, false, false, true, false, false, false, true, false, false, false, false] rfl rfl (any_of HT_.out (by kernel_rfl)) (fun _ _ _ h => h) (Or.inl ⟨by rfl, ?_⟩) ?_ ?_
                          rotate_left
                          · intro w'
                            go_simp
                            with_reducible rfl
                          rotate_left
                          · simp only [Act.put, List.setIfInBounds_toArray, List.set_cons_zero, List.set_cons_succ, i64_w, i32_w]
                            rfl
                          refine take_ (i := 1) (N := some 11) (v := ?_) (a' := ?_) #[true, true, false, true, false, false, false, true, false, false, false, false] rfl rfl (take_ofW HT_.out HW_.out (by kernel_rfl)) (fun _ _ _ h => h) (Or.inl ⟨by rfl, ?_⟩) hHeld ?_ ?_
                          rotate_left
                          · rintro w' ⟨s0, s1, s2, s3, s4⟩
                            go_simp
                            with_reducible rfl
                          rotate_left
                          · simp only [Act.put, List.setIfInBounds_toArray, List.set_cons_zero, List.set_cons_succ, i64_w, i32_w]
                            rfl
                          refine pure_ (i := 2) (N := some 12) (v := ?_) (a' := ?_) #[true, true, true, true, false, false, false, true, false, false, false, false] rfl rfl (any_of HT_.out (by kernel_rfl)) (fun _ _ _ h => h) (Or.inl ⟨by rfl, ?_⟩) ?_ ?_
                          rotate_left
                          · intro w'
                            go_simp
                            with_reducible rfl
                          rotate_left
                          · simp only [Act.put, List.setIfInBounds_toArray, List.set_cons_zero, List.set_cons_succ, i64_w, i32_w]
                            rfl
                          refine take_ (i := 4) (N := some 14) (v := ?_) (a' := ?_) #[true, true, true, true, true, false, false, true, false, false, false, false] rfl rfl (take_ofW HT_.out HW_.out (by kernel_rfl)) (fun _ _ _ h => h) (Or.inl ⟨by rfl, ?_⟩) hHeld ?_ ?_
                          rotate_left
                          · rintro w' ⟨s0, s1, s2, s3, s4⟩
                            go_simp
                            with_reducible rfl
                          rotate_left
                          · simp only [Act.put, List.setIfInBounds_toArray, List.set_cons_zero, List.set_cons_succ, i64_w, i32_w]
                            rfl
                          refine pure_ (i := 5) (N := some 15) (v := ?_) (a' := ?_) #[true, true, true, true, true, true, false, true, false, false, false, false] rfl rfl (any_of HT_.out (by kernel_rfl)) (fun _ _ _ h => h) (Or.inl ⟨by rfl, ?_⟩) ?_ ?_
                          rotate_left
                          · intro w'
                            go_simp
                            with_reducible rfl
                          rotate_left
                          · simp only [Act.put, List.setIfInBounds_toArray, List.set_cons_zero, List.set_cons_succ, i64_w, i32_w]
                            rfl
                          refine pure_ (i := 6) (N := some 16) (v := ?_) (a' := ?_) #[true, true, true, true, true, true, true, true, false, false, false, false] rfl rfl (any_of HT_.out (by kernel_rfl)) (fun _ _ _ h => h) (Or.inl ⟨by rfl, ?_⟩) ?_ ?_
                          rotate_left
                          · intro w'
                            go_simp
                            with_reducible rfl
                          rotate_left
                          · simp only [Act.put, List.setIfInBounds_toArray, List.set_cons_zero, List.set_cons_succ, i64_w, i32_w]
                            rfl
                          refine take_ (i := 8) (N := some 18) (v := ?_) (a' := ?_) #[true, true, true, true, true, true, true, true, true, false, false, false] rfl rfl (take_ofW HT_.out HW_.out (by kernel_rfl)) (fun _ _ _ h => h) (Or.inl ⟨by rfl, ?_⟩) hHeld ?_ ?_
                          rotate_left
                          · rintro w' ⟨s0, s1, s2, s3, s4⟩
                            go_simp
                            with_reducible rfl
                          rotate_left
                          · simp only [Act.put, List.setIfInBounds_toArray, List.set_cons_zero, List.set_cons_succ, i64_w, i32_w]
                            rfl
                          refine one_ (i := 9) (N := some 19) #[true, true, true, true, true, true, true, true, true, true, false, false] rfl rfl (one_of HT_.out (by kernel_rfl)) (by decide) (fun K hK => ?_)
                          refine goes_ Tryd.func36 (by kernel_rfl) rfl #[.int .i64 a0_2] (by rfl) rfl rfl (by (try simp only [List.map_toArray, List.map_cons, List.map_nil]); first | done | rfl | (simp only [List.length_drop, List.length_take]; rfl)) ?_
                          with_reducible refine (strconv_Itoa.calls (hP := Pows.below hP (by repeat (first | (with_reducible first | exact HB.out | apply below_alloc | apply pw_below_drewN | apply below_drew1) | exact HB.out | exact Below.refl _ _))) a0_2 t149 _ A71.out).mono ?_
                          rintro e w78 ⟨rfl, hb⟩
                          refine ⟨_, rfl, ?_⟩
                          have n0_ := Aside0.mk (blk_below (g := gb135) (o := .cells #[.string a0_0, .string a0_1, .int .i64 a0_2, .int .i64 a0_3, .slice A0_4 l0_4.length c0_4] 24 (0, 0)) (by (with_reducible repeat (first | refine blk_drewN ?_ _ | refine blk_drew ?_ | refine blk_alloc ?_ _)); exact BK135.out) hb)
                          have n1_ := Aside0.mk (below_step (by repeat (first | (with_reducible first | exact HB.out | apply below_alloc | apply pw_below_drewN | apply below_drew1 | refine below_set ?_ GE135.out) | exact HB.out)) hb)
                          clear BK135
                          clear HB
                          have BK135 := n0_
                          have HB := n1_
                          clear n0_ n1_
                          (try clear hb)
                          (try clear hb2)
                          (try clear hk)
                          (try clear hi)
                          refine hK.out _ _ ⟨(blk_cell BK135.out 0).trans rfl, (blk_cell BK135.out 1).trans rfl, (blk_cell BK135.out 2).trans rfl, (blk_cell BK135.out 3).trans rfl, (blk_cell BK135.out 4).trans rfl⟩ (fun hHeld => ?_)
                          clear hK K
                          refine norm_ (a' := ?_) ?_ ?_
                          rotate_left
                          · show Act.put _ (some 19) _ = _
                            simp only [Act.put, List.setIfInBounds_toArray, List.set_cons_zero, List.set_cons_succ, i64_w, i32_w]
                            rfl
                          refine pure_ (i := 10) (N := some 20) (v := ?_) (a' := ?_) #[true, true, true, true, true, true, true, true, true, true, true, false] rfl rfl (any_of HT_.out (by kernel_rfl)) (fun _ _ _ h => h) (Or.inl ⟨by rfl, ?_⟩) ?_ ?_
                          rotate_left
                          · intro w'
                            go_simp
                            with_reducible rfl
                          rotate_left
                          · simp only [Act.put, List.setIfInBounds_toArray, List.set_cons_zero, List.set_cons_succ, i64_w, i32_w]
                            rfl
                          refine pure_ (i := 11) (N := some 5) (v := ?_) (a' := ?_) #[true, true, true, true, true, true, true, true, true, true, true, true] rfl rfl (any_of HT_.out (by kernel_rfl)) (fun _ _ _ h => h) (Or.inl ⟨by rfl, ?_⟩) ?_ ?_
                          rotate_left
                          · intro w'
                            go_simp
                            with_reducible rfl
                          rotate_left
                          · simp only [Act.put, List.setIfInBounds_toArray, List.set_cons_zero, List.set_cons_succ, i64_w, i32_w]
                            rfl
                          refine done_ (done_of HT_.out (by kernel_rfl)) ?_
                          have hcz79_0 : w78.cell? ⟨gb135, 0, none⟩ = some (.string a0_0) := (blk_cell BK135.out 0).trans rfl
                          have hcz79_1 : w78.cell? ⟨gb135, 1, none⟩ = some (.string a0_1) := (blk_cell BK135.out 1).trans rfl
                          have hcz79_2 : w78.cell? ⟨gb135, 2, none⟩ = some (.int .i64 a0_2) := (blk_cell BK135.out 2).trans rfl
                          have hcz79_3 : w78.cell? ⟨gb135, 3, none⟩ = some (.int .i64 a0_3) := (blk_cell BK135.out 3).trans rfl
                          have hcz79_4 : w78.cell? ⟨gb135, 4, none⟩ = some (.slice A0_4 l0_4.length c0_4) := (blk_cell BK135.out 4).trans rfl
                          have hfz79_0 := blk_frozen BK135.out 0
                          have hfz79_1 := blk_frozen BK135.out 1
                          have hfz79_2 := blk_frozen BK135.out 2
                          have hfz79_3 := blk_frozen BK135.out 3
                          have hfz79_4 := blk_frozen BK135.out 4
                          try go_wp2_with (first | ((with_reducible refine gate_callee (f := 34) rfl ?_); refine goesL_ (some 71) rfl rfl Tryd.func34 (by kernel_rfl) rfl #[.agg #[.string a0_0, .string a0_1, .int .i64 a0_2, .int .i64 a0_3, .slice A0_4 l0_4.length c0_4]] rfl (by (try simp only [List.map_toArray, List.map_cons, List.map_nil]); first | done | rfl | (simp only [List.length_drop, List.length_take]; rfl)) ?_; (with_reducible refine (sift_rank.calls a0_0 a0_1 a0_2 a0_3 _ _ l0_4 t150 _ ?side1 ?side2 A73.out).mono ?_); (case side1 => repeat (first | exact (Kd.C_below HR0_4.out HB.out) | (with_reducible refine Kd.C_alloc ?_ _) | (with_reducible refine Kd.C_drewN ?_ _) | (with_reducible refine Kd.C_drew ?_))); (case side2 => exact HC0_4.out); rintro e w80 ⟨rfl, hb⟩; refine ⟨_, rfl, ?_⟩; have n0_ := Aside0.mk (blk_below (g := gb135) (o := .cells #[.string a0_0, .string a0_1, .int .i64 a0_2, .int .i64 a0_3, .slice A0_4 l0_4.length c0_4] 24 (0, 0)) (by (with_reducible repeat (first | refine blk_drewN ?_ _ | refine blk_drew ?_ | refine blk_alloc ?_ _)); exact BK135.out) hb); have n1_ := Aside0.mk (below_step (by repeat (first | (with_reducible first | exact HB.out | apply below_alloc | apply pw_below_drewN | apply below_drew1 | refine below_set ?_ GE135.out) | exact HB.out)) hb); clear BK135; clear HB; have BK135 := n0_; have HB := n1_; clear n0_ n1_; (try clear hb); (try clear hb2); (try clear hk); (try clear hi)))
                          go_ret
                          exact ⟨by first | rfl | (simp [errW_none, errW_some] <;> rfl) | (simp [*, errW_none, errW_some] <;> rfl), by repeat (first | (with_reducible first | exact HB.out | apply below_alloc | apply pw_below_drewN | apply below_drew1 | refine below_set ?_ GE135.out) | exact HB.out)⟩
                        · rw [if_neg c76] at H
                          exact absurd H (by simp)
                      · rw [if_neg c75] at H
                        exact absurd H (by simp)
                    · rw [if_neg c74] at H
                      have c74b0 : decide (t150 < a1) = false := decide_eq_false c74
                      clear c74
                      obtain rfl := Option.some.inj H
                      try go_wp2
                      have n0_ := Aside0.mk (blk_drew BK135.out)
                      have n1_ := Aside0.mk (below_drew1 HB.out)
                      clear BK135
                      clear HB
                      have BK135 := n0_
                      have HB := n1_
                      clear n0_ n1_
                      refine start_ (n := 12) (S := fun w' => w'.cell? ⟨gb135, 0, none⟩ = some (.string a0_0) ∧ w'.cell? ⟨gb135, 1, none⟩ = some (.string a0_1) ∧ w'.cell? ⟨gb135, 2, none⟩ = some (.int .i64 a0_2) ∧ w'.cell? ⟨gb135, 3, none⟩ = some (.int .i64 a0_3) ∧ w'.cell? ⟨gb135, 4, none⟩ = some (.slice A0_4 l0_4.length c0_4)) (ds := []) #[false, false, false, false, false, false, false, false, false, false, false, false] (by kernel_rfl) rfl rfl ⟨(blk_cell BK135.out 0).trans rfl, (blk_cell BK135.out 1).trans rfl, (blk_cell BK135.out 2).trans rfl, (blk_cell BK135.out 3).trans rfl, (blk_cell BK135.out 4).trans rfl⟩ (fun hHeld => ?_); refine with_tabW sift_printed.tab3 sift_printed.bits3 (fun HT_ HW_ => ?_)
                      generalize wc.drew = w81 at BK135 HB hHeld ⊢
                      refine pure_ (i := 0) (N := some 10) (v := ?_) (a' := ?_) #[true, false, false, false, false, false, false, false, false, false, false, false] rfl rfl (any_of HT_.out (by kernel_rfl)) (fun _ _ _ h => h) (Or.inl ⟨by rfl, ?_⟩) ?_ ?_
                      rotate_left
                      · intro w'
                        go_simp
                        with_reducible rfl
                      rotate_left
                      · simp only [Act.put, List.setIfInBounds_toArray, List.set_cons_zero, List.set_cons_succ, i64_w, i32_w]
                        rfl
                      refine pure_ (i := 3) (N := some 13) (v := ?_) (a' := ?_) #[true, false, false, true, false, false, false, false, false, false, false, false] rfl rfl (any_of HT_.out (by kernel_rfl)) (fun _ _ _ h => h) (Or.inl ⟨by rfl, ?_⟩) ?_ ?_
                      rotate_left
                      · intro w'
                        go_simp
                        with_reducible rfl
                      rotate_left
                      · simp only [Act.put, List.setIfInBounds_toArray, List.set_cons_zero, List.set_cons_succ, i64_w, i32_w]
                        rfl
                      refine pure_ (i := 7) (N := some 17) (v := ?_) (a' := ?_) #[true, false, false, true, false, false, false, true, false, false, false, false] rfl rfl (any_of HT_.out (by kernel_rfl)) (fun _ _ _ h => h) (Or.inl ⟨by rfl, ?_⟩) ?_ ?_
                      rotate_left
                      · intro w'
                        go_simp
                        with_reducible rfl
                      rotate_left
                      · simp only [Act.put, List.setIfInBounds_toArray, List.set_cons_zero, List.set_cons_succ, i64_w, i32_w]
                        rfl
                      refine take_ (i := 1) (N := some 11) (v := ?_) (a' := ?_) #[true, true, false, true, false, false, false, true, false, false, false, false] rfl rfl (take_ofW HT_.out HW_.out (by kernel_rfl)) (fun _ _ _ h => h) (Or.inl ⟨by rfl, ?_⟩) hHeld ?_ ?_
                      rotate_left
                      · rintro w' ⟨s0, s1, s2, s3, s4⟩
                        go_simp
                        with_reducible rfl
                      rotate_left
                      · simp only [Act.put, List.setIfInBounds_toArray, List.set_cons_zero, List.set_cons_succ, i64_w, i32_w]
                        rfl
                      refine pure_ (i := 2) (N := some 12) (v := ?_) (a' := ?_) #[true, true, true, true, false, false, false, true, false, false, false, false] rfl rfl (any_of HT_.out (by kernel_rfl)) (fun _ _ _ h => h) (Or.inl ⟨by rfl, ?_⟩) ?_ ?_
                      rotate_left
                      · intro w'
                        go_simp
                        with_reducible rfl
                      rotate_left
                      · simp only [Act.put, List.setIfInBounds_toArray, List.set_cons_zero, List.set_cons_succ, i64_w, i32_w]
                        rfl
                      refine take_ (i := 4) (N := some 14) (v := ?_) (a' := ?_) #[true, true, true, true, true, false, false, true, false, false, false, false] rfl rfl (take_ofW HT_.out HW_.out (by kernel_rfl)) (fun _ _ _ h => h) (Or.inl ⟨by rfl, ?_⟩) hHeld ?_ ?_
                      rotate_left
                      · rintro w' ⟨s0, s1, s2, s3, s4⟩
                        go_simp
                        with_reducible rfl
                      rotate_left
                      · simp only [Act.put, List.setIfInBounds_toArray, List.set_cons_zero, List.set_cons_succ, i64_w, i32_w]
                        rfl
                      refine pure_ (i := 5) (N := some 15) (v := ?_) (a' := ?_) #[true, true, true, true, true, true, false, true, false, false, false, false] rfl rfl (any_of HT_.out (by kernel_rfl)) (fun _ _ _ h => h) (Or.inl ⟨by rfl, ?_⟩) ?_ ?_
                      rotate_left
                      · intro w'
                        go_simp
                        with_reducible rfl
                      rotate_left
                      · simp only [Act.put, List.setIfInBounds_toArray, List.set_cons_zero, List.set_cons_succ, i64_w, i32_w]
                        rfl
                      refine pure_ (i := 6) (N := some 16) (v := ?_) (a' := ?_) #[true, true, true, true, true, true, true, true, false, false, false, false] rfl rfl (any_of HT_.out (by kernel_rfl)) (fun _ _ _ h => h) (Or.inl ⟨by rfl, ?_⟩) ?_ ?_
                      rotate_left
                      · intro w'
                        go_simp
                        with_reducible rfl
                      rotate_left
                      · simp only [Act.put, List.setIfInBounds_toArray, List.set_cons_zero, List.set_cons_succ, i64_w, i32_w]
                        rfl
                      refine take_ (i := 8) (N := some 18) (v := ?_) (a' := ?_) #[true, true, true, true, true, true, true, true, true, false, false, false] rfl rfl (take_ofW HT_.out HW_.out (by kernel_rfl)) (fun _ _ _ h => h) (Or.inl ⟨by rfl, ?_⟩) hHeld ?_ ?_
                      rotate_left
                      · rintro w' ⟨s0, s1, s2, s3, s4⟩
                        go_simp
                        with_reducible rfl
                      rotate_left
                      · simp only [Act.put, List.setIfInBounds_toArray, List.set_cons_zero, List.set_cons_succ, i64_w, i32_w]
                        rfl
                      refine one_ (i := 9) (N := some 19) #[true, true, true, true, true, true, true, true, true, true, false, false] rfl rfl (one_of HT_.out (by kernel_rfl)) (by decide) (fun K hK => ?_)
                      refine goes_ Tryd.func36 (by kernel_rfl) rfl #[.int .i64 a0_2] (by rfl) rfl rfl (by (try simp only [List.map_toArray, List.map_cons, List.map_nil]); first | done | rfl | (simp only [List.length_drop, List.length_take]; rfl)) ?_
                      with_reducible refine (strconv_Itoa.calls (hP := Pows.below hP (by repeat (first | (with_reducible first | exact HB.out | apply below_alloc | apply pw_below_drewN | apply below_drew1) | exact HB.out | exact Below.refl _ _))) a0_2 t149 _ A71.out).mono ?_
                      rintro e w82 ⟨rfl, hb⟩
                      refine ⟨_, rfl, ?_⟩
                      have n0_ := Aside0.mk (blk_below (g := gb135) (o := .cells #[.string a0_0, .string a0_1, .int .i64 a0_2, .int .i64 a0_3, .slice A0_4 l0_4.length c0_4] 24 (0, 0)) (by (with_reducible repeat (first | refine blk_drewN ?_ _ | refine blk_drew ?_ | refine blk_alloc ?_ _)); exact BK135.out) hb)
                      have n1_ := Aside0.mk (below_step (by repeat (first | (with_reducible first | exact HB.out | apply below_alloc | apply pw_below_drewN | apply below_drew1 | refine below_set ?_ GE135.out) | exact HB.out)) hb)
                      clear BK135
                      clear HB
                      have BK135 := n0_
                      have HB := n1_
                      clear n0_ n1_
                      (try clear hb)
                      (try clear hb2)
                      (try clear hk)
                      (try clear hi)
                      refine hK.out _ _ ⟨(blk_cell BK135.out 0).trans rfl, (blk_cell BK135.out 1).trans rfl, (blk_cell BK135.out 2).trans rfl, (blk_cell BK135.out 3).trans rfl, (blk_cell BK135.out 4).trans rfl⟩ (fun hHeld => ?_)
                      clear hK K
                      refine norm_ (a' := ?_) ?_ ?_
                      rotate_left
                      · show Act.put _ (some 19) _ = _
                        simp only [Act.put, List.setIfInBounds_toArray, List.set_cons_zero, List.set_cons_succ, i64_w, i32_w]
                        rfl
                      refine pure_ (i := 10) (N := some 20) (v := ?_) (a' := ?_) #[true, true, true, true, true, true, true, true, true, true, true, false] rfl rfl (any_of HT_.out (by kernel_rfl)) (fun _ _ _ h => h) (Or.inl ⟨by rfl, ?_⟩) ?_ ?_
                      rotate_left
                      · intro w'
                        go_simp
                        with_reducible rfl
                      rotate_left
                      · simp only [Act.put, List.setIfInBounds_toArray, List.set_cons_zero, List.set_cons_succ, i64_w, i32_w]
                        rfl
                      refine pure_ (i := 11) (N := some 5) (v := ?_) (a' := ?_) #[true, true, true, true, true, true, true, true, true, true, true, true] rfl rfl (any_of HT_.out (by kernel_rfl)) (fun _ _ _ h => h) (Or.inl ⟨by rfl, ?_⟩) ?_ ?_
                      rotate_left
                      · intro w'
                        go_simp
                        with_reducible rfl
                      rotate_left
                      · simp only [Act.put, List.setIfInBounds_toArray, List.set_cons_zero, List.set_cons_succ, i64_w, i32_w]
                        rfl
                      refine done_ (done_of HT_.out (by kernel_rfl)) ?_
                      have hcz83_0 : w82.cell? ⟨gb135, 0, none⟩ = some (.string a0_0) := (blk_cell BK135.out 0).trans rfl
                      have hcz83_1 : w82.cell? ⟨gb135, 1, none⟩ = some (.string a0_1) := (blk_cell BK135.out 1).trans rfl
                      have hcz83_2 : w82.cell? ⟨gb135, 2, none⟩ = some (.int .i64 a0_2) := (blk_cell BK135.out 2).trans rfl
                      have hcz83_3 : w82.cell? ⟨gb135, 3, none⟩ = some (.int .i64 a0_3) := (blk_cell BK135.out 3).trans rfl
                      have hcz83_4 : w82.cell? ⟨gb135, 4, none⟩ = some (.slice A0_4 l0_4.length c0_4) := (blk_cell BK135.out 4).trans rfl
                      have hfz83_0 := blk_frozen BK135.out 0
                      have hfz83_1 := blk_frozen BK135.out 1
                      have hfz83_2 := blk_frozen BK135.out 2
                      have hfz83_3 := blk_frozen BK135.out 3
                      have hfz83_4 := blk_frozen BK135.out 4
                      try go_wp2_with (first | ((with_reducible refine gate_callee (f := 34) rfl ?_); refine goesL_ (some 71) rfl rfl Tryd.func34 (by kernel_rfl) rfl #[.agg #[.string a0_0, .string a0_1, .int .i64 a0_2, .int .i64 a0_3, .slice A0_4 l0_4.length c0_4]] rfl (by (try simp only [List.map_toArray, List.map_cons, List.map_nil]); first | done | rfl | (simp only [List.length_drop, List.length_take]; rfl)) ?_; (with_reducible refine (sift_rank.calls a0_0 a0_1 a0_2 a0_3 _ _ l0_4 t150 _ ?side1 ?side2 A73.out).mono ?_); (case side1 => repeat (first | exact (Kd.C_below HR0_4.out HB.out) | (with_reducible refine Kd.C_alloc ?_ _) | (with_reducible refine Kd.C_drewN ?_ _) | (with_reducible refine Kd.C_drew ?_))); (case side2 => exact HC0_4.out); rintro e w84 ⟨rfl, hb⟩; refine ⟨_, rfl, ?_⟩; have n0_ := Aside0.mk (blk_below (g := gb135) (o := .cells #[.string a0_0, .string a0_1, .int .i64 a0_2, .int .i64 a0_3, .slice A0_4 l0_4.length c0_4] 24 (0, 0)) (by (with_reducible repeat (first | refine blk_drewN ?_ _ | refine blk_drew ?_ | refine blk_alloc ?_ _)); exact BK135.out) hb); have n1_ := Aside0.mk (below_step (by repeat (first | (with_reducible first | exact HB.out | apply below_alloc | apply pw_below_drewN | apply below_drew1 | refine below_set ?_ GE135.out) | exact HB.out)) hb); clear BK135; clear HB; have BK135 := n0_; have HB := n1_; clear n0_ n1_; (try clear hb); (try clear hb2); (try clear hk); (try clear hi)))
                      go_ret
                      exact ⟨by first | rfl | (simp [errW_none, errW_some] <;> rfl) | (simp [*, errW_none, errW_some] <;> rfl), by repeat (first | (with_reducible first | exact HB.out | apply below_alloc | apply pw_below_drewN | apply below_drew1 | refine below_set ?_ GE135.out) | exact HB.out)⟩
                  · rw [if_neg c72] at H
                    exact absurd H (by simp)
                · rw [if_neg c70] at H
                  exact absurd H (by simp)
              · rw [if_neg c69] at H
                exact absurd H (by simp)
            · rw [if_neg c68] at H
              exact absurd H (by simp)

set_option maxHeartbeats 8000000 in
set_option maxRecDepth 100000 in
theorem sift_printed.calls (k : Nat) : ∀ (a0_0 : ByteArray) (a0_1 : ByteArray) (a0_2 : Int) (a0_3 : Int) (A0_4 : Option Addr) (c0_4 : Nat) (l0_4 : List (S24)) (a1 : Int) (r : ByteArray) (w : World) (hP : Pows w) (hr0_4 : Kd.C k24 w A0_4 l0_4.length l0_4) (hc0_4 : l0_4.length ≤ c0_4) (h : sift_printed.f k a0_0 a0_1 a0_2 a0_3 l0_4 a1 = some r),
    Calls Tryd.prog 19 #[.agg #[.string a0_0, .string a0_1, .int .i64 a0_2, .int .i64 a0_3, .slice A0_4 l0_4.length c0_4], .int .i64 a1] w fun e w' => e = .returned (.string r) ∧ Below w.heap.size w w' := by
  induction k using Nat.strongRecOn with
  | _ k ih =>
  intro a0_0 a0_1 a0_2 a0_3 A0_4 c0_4 l0_4 a1 r w hP hr0_4 hc0_4 h
  cases k with
  | zero => exact absurd h (by simp [sift_printed.f])
  | succ k =>
  exact sift_printed.arm1 k ih a0_0 a0_1 a0_2 a0_3 A0_4 c0_4 l0_4 a1 r w hP hr0_4 hc0_4 h
end Go.Proofs.YtlkllccbcfhekaaDoor.Sift
