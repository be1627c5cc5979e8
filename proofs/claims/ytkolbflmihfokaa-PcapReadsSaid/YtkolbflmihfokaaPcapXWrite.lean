/- What pcap.Write computes: the validation, then the records one behind the other. -/
import Derived.Test.YtkolbflmihfokaaPcapx2
import Derived.Test.YtkolbflmihfokaaPcapx3
import Derived.Lib.SlBytesConst
import Derived.Outline
namespace Go.Proofs.Ytkolbflmihfokaa.Pcap
open Go.RowKit Go.Proofs.YtkolbflmihfokaaW.PrintWords Go.Proofs.YtkolbflmihfokaaW.PrintLast

/-- The bytes so far: the constant's own row (marked, full), or a row of the call's own. -/
def WRow (w : World) (base : Nat) (v : Value) (xs : List Int) : Prop :=
  w.ownsRow base 5 1 v xs.length (nums .u8 xs) ∨ (∃ g, v = .slice (some ⟨g, 0, none⟩) 4 4 ∧ xs = [80, 66, 67, 49] ∧ base ≤ g ∧ w.heap[g]? = some (.cells (nums .u8 [80, 66, 67, 49]).toArray 5 (4, 5)))
theorem WRow.below {w w1 : World} {base : Nat} {v : Value} {xs : List Int} (h : WRow w base v xs) (hb : Below w.heap.size w w1) : WRow w1 base v xs := by
  rcases h with h | ⟨g, h1, h2, h3, h4⟩
  · exact .inl (pw_own_below h hb)
  · exact .inr ⟨g, h1, h2, h3, (hb.block g (Array.getElem?_eq_some_iff.1 h4).1).trans h4⟩
theorem WRow.alloc {w : World} {base : Nat} {v : Value} {xs : List Int} (h : WRow w base v xs) (o : Obj) : WRow (w.alloc o) base v xs := h.below ((Below.refl _ _).alloc (Nat.le_refl _) _)

theorem wrow_string {P : Program} {w : World} {base : Nat} {v : Value} {xs : List Int} {src dst : TypeId} (h : WRow w base v xs) (hs : P.underlying src = some (.slice 5)) (he : P.underlying 5 = some (.int .u8)) (hd : P.underlying dst = some .string) :
    (convert src dst v).run P w = .ok (.string (strOfNums xs)) w := by
  rcases h with h | ⟨g, rfl, rfl, _, h4⟩
  · exact own_string hs he hd h
  · refine run_convert_bytes_arg w src 5 hs he g 0 4 4 [80, 66, 67, 49] rfl (fun i hi => ?_) dst hd
    rw [Nat.zero_add, cell_of_row w g i _ _ _ h4]
    match i, hi with
    | 0, _ => rfl
    | 1, _ => rfl
    | 2, _ => rfl
    | 3, _ => rfl

section
variable {P : Program} {ops : Array Oper} {rest : List Oper} {o : Oper} {a : Act} {Q : Exit → Act → World → Prop}
theorem wrow_append {w0 W : World} (base : Nat) (hgd : o.guard = none) (s x : Operand) (t u : TypeId)
    (ho : o.op = .call { callee := .builtin .append, args := #[s, x], argTypes := #[t, u] })
    (ht : P.underlying t = some (.slice 5)) (hu : P.underlying u = some .string) (hinfo : (P.info? 5).map (fun i => (i.zero, i.size, i.bytes)) = some (some (.int .u8 0), 1, 1))
    (v : Value) (xs : List Int) (y : ByteArray) (hs : a.eval s = v) (hx : a.eval x = .string y) (hy : 0 < y.size)
    (HO : WRow W base v xs) (HB : Below base w0 W) (hbase : base ≤ W.heap.size) (hl : xs.length + y.size ≤ 140737488355328)
    (h : ∀ v1 w1, WRow w1 base v1 (xs ++ bytesOf y) → Below base w0 w1 → (∀ (g : Nat) (cells : Array Value) (q : TypeId) (fr : Nat × Nat), W.heap[g]? = some (.cells cells q fr) → q ≠ 5 → w1.heap[g]? = some (.cells cells q fr)) → wpList P ops Q rest (a.put o.dst v1) w1) :
    wpList P ops Q (o :: rest) a W := by
  rcases HO with HO | ⟨g, rfl, rfl, hg0, h4⟩
  · refine print_append_str base hgd s x t u 5 ho ht hu hinfo v xs y hs hx HO HB hbase hl fun v1 w1 hown hB hgr => h v1 w1 (.inl hown) hB fun g cells q fr hg hq => ?_
    refine (hgr.block g (Array.getElem?_eq_some_iff.1 hg).1 (fun e => ?_)).trans hg
    obtain ⟨cells', hc⟩ := own_typed HO g e.symm
    rw [hc] at hg
    injection hg with hg
    injection hg with _ hg
    exact hq hg.symm
  · obtain ⟨i0, hi, hzz⟩ := Option.map_eq_some_iff.1 hinfo
    simp only [Prod.mk.injEq] at hzz
    obtain ⟨hz0, hz1, hz2⟩ := hzz
    have hl4 : 4 + y.size ≤ 140737488355328 := by simpa using hl
    have hgc := grownCap_ge W (4 + y.size) 4 5
    have hcm : grownCap W (4 + y.size) 4 5 ≤ maxLen := grownCap_le_maxLen W (4 + y.size) 4 5 (by simp only [maxLen]; omega)
    have hrun := Lib.run_append_grow_string (P := P) W t u o.type 5 i0 (.int .u8 0) ht hu hi hz0 ⟨g, 0, none⟩ 4 4 (nums .u8 [80, 66, 67, 49]) (by rw [hz1]; rfl) (fun j v hv => by
      rw [add_plain, cell_of_row W g j _ _ _ h4]
      simpa using hv) y (by omega) (by omega) (by rw [hz2]; exact growslice_fits (by omega) (by omega))
    refine wpList_plain hgd fun K hK => ?_
    unfold Oper.wp execOp
    simp only [ho, resolve, invoke, builtin, Sem.run_bind, Sem.run_pure, Result.andThen_ok, List.map_toArray, List.map_cons, List.map_nil, hs, hx, hrun]
    refine hK _ _ (h _ _ (.inl ?_) ?_ (fun g' cells q fr hg _ => (heap_alloc_old W.drew _ (Array.getElem?_eq_some_iff.1 hg).1).trans hg))
    · have hlen : (nums .u8 ([80, 66, 67, 49] ++ bytesOf y)).length = (4 + y.size) * 1 := by rw [nums_length, List.length_append, bytesOf_length]; simp
      have hxl : ([80, 66, 67, 49] ++ bytesOf y).length = 4 + y.size := by rw [List.length_append, bytesOf_length]; rfl
      rw [hxl]
      have hc : nums .u8 ([80, 66, 67, 49] ++ bytesOf y) = nums .u8 [80, 66, 67, 49] ++ Lib.strCells y := by
        rw [nums_append]
        congr 1
        simp [nums, bytesOf, Lib.strCells]
      refine ⟨hlen, .inr ⟨W.heap.size, _, _, rfl, hbase, heap_alloc_new W.drew _, hgc, hcm, ?_, ?_⟩⟩
      · have hz1 : (Value.int IntKind.u8 0).cells.size = 1 := rfl
        simp only [Array.size_append, List.size_toArray, size_zeroCells, hz1, nums_length, Lib.strCells_length, List.length_cons, List.length_nil]
        omega
      · simp only [Array.toList_append, List.append_assoc]
        rw [← List.append_assoc, ← hlen, hc]
        exact List.take_left
    · exact (below_drew HB).alloc hbase _
end

def pcap_Write.l0 : Nat → List Int → Int → List (S26) → Int → Int → Option (ByteArray × Int)
  | 0, _, _, _, _, _ => none
  | k + 1, x5, x6, x16, x17, x18 => if x18 < x17 then (if 0 ≤ x18 then (if x18 < (x16.length : Int) then ((pcap_record.f k ((rd_T26 x16 x18).f0) ((rd_T26 x16 x18).f1) ((rd_T26 x16 x18).f2) ((rd_T26 x16 x18).f3) ((rd_T26 x16 x18).f4) x6).bind fun t122 => (if 0 < t122.size then (if x5.length + t122.size < 140737488355328 then (pcap_Write.l0 k (x5 ++ bytesOf t122) ((rd_T26 x16 x18).f0) x16 x17 (wrap64 (x18 + 1))) else (none)) else none)) else (none)) else (none)) else (some (strOfNums x5, 0))
def pcap_Write.f (k : Nat) (l0 : List (S26)) : Option (ByteArray × Int) := (pcap_Check.f k l0).bind fun t116 => (if t116 = 0 then (pcap_Write.l0 k (([80, 66, 67, 49] : List Int)) 0 l0 (l0.length : Int) 0) else (some ((⟨#[]⟩ : ByteArray), t116)))
theorem pcap_Write.mono_l : ∀ k, (∀ y0 y1 y2 y3 y4, LeO (pcap_Write.l0 k y0 y1 y2 y3 y4) (pcap_Write.l0 (k + 1) y0 y1 y2 y3 y4))
  | 0 => fun _ _ _ _ _ r h => by simp [pcap_Write.l0] at h
  | k + 1 => by
    have ih0 := pcap_Write.mono_l k
    intro y0 y1 y2 y3 y4
    unfold pcap_Write.l0
    repeat' first
      | (with_reducible exact ih0 _ _ _ _ _)
      | (with_reducible exact pcap_record.mono _ _ _ _ _ _ _)
      | (with_reducible exact LeO.refl _)
      | (with_reducible exact LeO.none _)
      | (with_reducible refine LeO.ite ?_ ?_)
      | (with_reducible refine LeO.bind ?_ (fun _ => ?_))
theorem pcap_Write.mono : ∀ a0 k, LeO (pcap_Write.f k a0) (pcap_Write.f (k + 1) a0) := by
  intro a0 k
  have ih0 := pcap_Write.mono_l k
  unfold pcap_Write.f
  repeat' first
      | (with_reducible exact ih0 _ _ _ _ _)
      | (with_reducible exact pcap_Check.mono _ _)
      | (with_reducible exact LeO.refl _)
      | (with_reducible exact LeO.none _)
      | (with_reducible refine LeO.ite ?_ ?_)
      | (with_reducible refine LeO.bind ?_ (fun _ => ?_))

theorem u8_info : (Try.prog.info? 5).map (fun i => (i.zero, i.size, i.bytes)) = some (some (.int .u8 0), 1, 1) := by kernel_rfl

set_option maxHeartbeats 2000000 in
set_option maxRecDepth 100000 in
theorem pcap_Write.calls (k : Nat) (A0 : Option Addr) (c0 : Nat) (l0 : List (S26)) (r1 : ByteArray) (r2 : Int) (w : World) (hr0 : Kd.C k26 w A0 l0.length l0) (hc0 : l0.length ≤ c0) (h : pcap_Write.f k l0 = some (r1, r2)) :
    Calls Try.prog 19 #[.slice A0 l0.length c0] w fun e w' => e = .returned (.tuple #[.string r1, .int .i64 r2]) ∧ Below w.heap.size w w' := by
  unfold pcap_Write.f at h
  obtain ⟨t116, A20, H⟩ := Option.bind_eq_some_iff.mp h
  clear h
  have HR0 := Aside0.mk hr0
  have HC0 := Aside0.mk hc0
  have A2 := Aside0.mk A20
  clear hr0 hc0 A20
  by_cases c3 : t116 = 0
  · rw [if_pos c3] at H
    subst c3
    have H' := Aside0.mk H
    clear H
    have kc := fun (w : World) (C : Array Value) (n c : Nat) => Lib.run_convert_bytes_const (P := Try.prog) w 105 5 C n c Try.underlying105 Try.underlying5
    go_enter Try.func19, Try.ntmps19
    go_wp2_with (go_at_call 13; refine (pcap_Check.calls k _ _ l0 _ _ HR0.out HC0.out A2.out).mono ?_; rintro e w4 ⟨rfl, hb⟩)
    have hst : WRow (w4.alloc (.cells #[.int .u8 80, .int .u8 66, .int .u8 67, .int .u8 49] 5 (4, 5))) w.heap.size (.slice (some ⟨w4.heap.size, 0, none⟩) 4 4) [80, 66, 67, 49] := .inr ⟨w4.heap.size, rfl, rfl, hb.size, heap_alloc_new _ _⟩
    have hbw : Below w.heap.size w (w4.alloc (.cells #[.int .u8 80, .int .u8 66, .int .u8 67, .int .u8 49] 5 (4, 5))) := hb.alloc hb.size _
    have HS := Aside0.mk hst
    have HW := Aside0.mk hbw
    clear hst hbw hb
    go_loopg [5, 6, 18] k (fun kq v5 v6 v18 w' => ∃ (x5_1 : List Int) (x6_1 : Int) (x18_1 : Int), v6 = .int .i64 x6_1 ∧ v18 = .int .i64 x18_1 ∧ Aside0 (pcap_Write.l0 kq x5_1 x6_1 l0 (l0.length : Int) x18_1 = some (r1, r2)) ∧ Aside0 (kq ≤ k) ∧ Aside0 (WRow w' w.heap.size v5 x5_1) ∧ Aside0 (Below w.heap.size w w'))
    case atStart => exact ⟨_, 0, 0, rfl, rfl, H', ⟨Nat.le_refl _⟩, HS, HW⟩
    case round =>
      clear H' HS HW A2
      obtain ⟨x5_1, x6_1, x18_1, rfl, rfl, HA, HK1, HO, HB⟩ := hrel
      cases gk with
      | zero => exact absurd HA.out (by simp [pcap_Write.l0])
      | succ k1 =>
        have H := HA.out
        clear HA
        simp only [pcap_Write.l0] at H
        by_cases c7 : x18_1 < (l0.length : Int)
        · rw [if_pos c7] at H
          by_cases c8 : 0 ≤ x18_1
          · rw [if_pos c8, if_pos c7] at H
            replace H := Option.bind_eq_some_iff.mp H
            obtain ⟨t122, A100, H⟩ := H
            have A10 := Aside0.mk A100
            clear A100
            by_cases c10 : 0 < t122.size
            · replace H : (if x5_1.length + t122.size < 140737488355328 then (pcap_Write.l0 k1 (x5_1 ++ bytesOf t122) ((rd_T26 l0 x18_1).f0) l0 (l0.length : Int) (wrap64 (x18_1 + 1))) else (none)) = some (r1, r2) := by rw [if_pos c10] at H; exact H
              by_cases c11 : x5_1.length + t122.size < 140737488355328
              · rw [if_pos c11] at H
                have H' := Aside0.mk H
                have C10 := Aside0.mk c10
                have C11 := Aside0.mk c11
                clear H c10 c11
                obtain ⟨ad, e120, hx0, hx1, hx2, hx3, hx4⟩ := at_T26 HR0.out x18_1 c8 c7
                cases e120
                replace hx0 := (HB.out.cell (World.block_lt_of_cell? w _ hx0)).trans hx0
                replace hx1 := (HB.out.cell (World.block_lt_of_cell? w _ hx1)).trans hx1
                replace hx2 := (HB.out.cell (World.block_lt_of_cell? w _ hx2)).trans hx2
                replace hx3 := (HB.out.cell (World.block_lt_of_cell? w _ hx3)).trans hx3
                replace hx4 := (HB.out.cell (World.block_lt_of_cell? w _ hx4)).trans hx4
                have d7 : decide (x18_1 < (l0.length : Int)) = true := decide_eq_true c7
                have d8 : 0 ≤ x18_1 ∧ x18_1 < (l0.length : Int) := ⟨c8, c7⟩
                generalize hxe : rd_T26 l0 x18_1 = x at *
                clear hxe
                go_wp2_with (first | (go_at_call 54; refine (pcap_record.calls k1 _ _ _ _ _ _ t122 _ A10.out).mono ?_; rintro e w14 ⟨rfl, hb⟩; have n0_ := Aside0.mk ((HO.out.alloc _).below hb); have n1_ := Aside0.mk (below_then (HB.out.alloc HB.out.size _) (by have := HB.out.size; simp; omega) hb); have n2_ := Aside0.mk ((hb.block wr.heap.size (by simp)).trans (heap_alloc_new _ _)); clear hb) | (at_builtin; refine wrow_append (w0 := w) w.heap.size rfl (.tmp 22) (.tmp 25) 105 9 rfl Try.underlying105 Try.underlying9 u8_info _ x5_1 t122 rfl rfl C10.out ?aO ?aB ?aS ?aL ?_))
                case aO => exact n0_.out
                case aB => exact n1_.out
                case aS => exact n1_.out.size
                case aL => have := C11.out; omega
                intro v1 w15 hr1 hb1 hk1
                have hbx := hk1 _ _ _ _ _ n2_.out (by decide)
                have hcx : w15.cell? ⟨wr.heap.size, 0, none⟩ = some (.int .i64 x.f0) := (cell_of_row _ _ _ _ _ _ hbx).trans rfl
                have R1 := Aside0.mk hr1
                have B1 := Aside0.mk hb1
                clear hr1 hb1 hk1 hbx n0_ n1_ n2_
                go_wp2
                go_roundg k1
                case measure => have := HK1.out; omega
                case rel => exact ⟨x5_1 ++ bytesOf t122, x.f0, wrap64 (x18_1 + 1), rfl, rfl, H', ⟨by have := HK1.out; omega⟩, R1, B1⟩
              · rw [if_neg c11] at H
                exact absurd H (by simp)
            · rw [if_neg c10] at H
              exact absurd H (by simp)
          · rw [if_neg c8] at H
            exact absurd H (by simp)
        · rw [if_neg c7] at H
          have d7 : decide (x18_1 < (l0.length : Int)) = false := decide_eq_false c7
          clear c7
          simp only [Option.some.injEq, Prod.mk.injEq] at H
          obtain ⟨rfl, rfl⟩ := H
          have hcv := wrow_string (P := Try.prog) HO.out Try.underlying105 Try.underlying5 Try.underlying9
          go_wp2
          go_ret2
          exact ⟨rfl, HB.out⟩
  · rw [if_neg c3] at H
    have c3b : (t116 != 0) = true := bne_iff_ne.mpr c3
    clear c3
    simp only [Option.some.injEq, Prod.mk.injEq] at H
    obtain ⟨rfl, rfl⟩ := H
    go_enter Try.func19, Try.ntmps19
    go_wp2_with (go_at_call 13; refine (pcap_Check.calls k _ _ l0 _ _ HR0.out HC0.out A2.out).mono ?_; rintro e w4 ⟨rfl, hb⟩)
    go_ret2
    exact ⟨rfl, hb⟩

end Go.Proofs.Ytkolbflmihfokaa.Pcap
