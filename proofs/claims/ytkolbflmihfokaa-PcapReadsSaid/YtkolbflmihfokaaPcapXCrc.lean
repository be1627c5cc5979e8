/- The checksum CRC-32 of package crc: what the functions half, table and Sum compute; the world below the call's own blocks stays. -/
import Derived.Test.YtkolbflmihfokaaPcapx0
import Derived.Laws.Tables
import Derived.Laws.CopyOwn
import Derived.LoopTactic
import Derived.Outline
import Derived.OpenShut
namespace Go.Proofs.Ytkolbflmihfokaa.Pcap
open Go.RowKit Go.Proofs.YtkolbflmihfokaaW.PrintWords Go.Proofs.YtkolbflmihfokaaW.PrintLast

/-- A remainder times x. -/
def crcHalf (a : Int) : Int := if Go.bits .and .u32 a 1 = 1 then Go.bits .xor .u32 (a / 2) 3988292384 else a / 2
def crcTimes : Nat → Int → Int
  | 0, c => c
  | n + 1, c => crcHalf (crcTimes n c)
/-- The cells of the table when k of them are made. -/
def crcCells (k : Nat) : Array Value := ((List.range 256).map fun i => Value.int .u32 (if i < k then crcTimes 8 i else 0)).toArray
theorem crcCells_size (k : Nat) : (crcCells k).size = 256 := by simp [crcCells]
theorem crcCells_get (k i : Nat) (h : i < 256) : (crcCells k)[i]? = some (.int .u32 (if i < k then crcTimes 8 i else 0)) := by
  simp [crcCells, List.getElem?_range h]
theorem crcCells_set (k : Nat) : (crcCells k).setIfInBounds k (.int .u32 (crcTimes 8 k)) = crcCells (k + 1) := by
  apply Array.ext
  · simp [crcCells]
  · intro i h1 h2
    have hi : i < (crcCells k).size := by simpa using h1
    rw [Array.getElem_setIfInBounds hi]
    split
    · rename_i e
      subst e
      simp [crcCells]
    · rename_i e
      simp only [crcCells, List.getElem_toArray, List.getElem_map, List.getElem_range]
      by_cases h : i < k
      · rw [if_pos h, if_pos (by omega)]
      · rw [if_neg h, if_neg (by omega)]

theorem crc_half.any (a : Int) (w : World) : Calls Try.prog 115 #[.int .u32 a] w fun e w' => e = .returned (.int .u32 (crcHalf a)) ∧ w = w' := by
  unfold crcHalf
  by_cases c : Go.bits .and .u32 a 1 = 1
  · rw [if_pos c]
    have cb : (Go.bits .and .u32 a 1 == 1) = true := beq_iff_eq.mpr c
    clear c
    go_enter Try.func115, Try.ntmps115
    go_wp2
    go_ret
    exact ⟨rfl, rfl⟩
  · rw [if_neg c]
    have cb : (Go.bits .and .u32 a 1 == 1) = false := beq_eq_false_iff_ne.mpr c
    clear c
    go_enter Try.func115, Try.ntmps115
    go_wp2
    go_ret
    exact ⟨rfl, rfl⟩

theorem crc_zero : Try.zeroCells172 = crcCells 0 := by kernel_rfl
theorem crc_info : (Try.prog.info? 172).map (·.size) = some 256 := by kernel_rfl
theorem crc_one : (crcCells 256).all (·.oneCell') = true := by
  rw [Array.all_eq_true_iff_forall_mem]
  intro x hx
  simp only [crcCells, List.mem_toArray, List.mem_map] at hx
  obtain ⟨i, _, rfl⟩ := hx
  rfl

set_option maxRecDepth 100000 in
set_option maxHeartbeats 1000000 in
theorem crc_table.any (w : World) : Calls Try.prog 106 #[] w fun e w' => e = .returned (.agg (crcCells 256)) ∧ Below w.heap.size w w' := by
  go_enter Try.func106, Try.ntmps106
  go_wp2
  rw [crc_zero]
  go_loopw [3] (fun v3 wr => ∃ k : Nat, k ≤ 256 ∧ v3 = .int .i64 k ∧ Aside0 (Below w.heap.size w wr) ∧ Aside0 (wr.heap[w.heap.size]? = some (.cells (crcCells k) 172 (0, 0)))) (fun v3 _ => 256 - (intOf v3).toNat)
  case atStart => exact ⟨0, by omega, rfl, ⟨(Below.refl _ _).alloc (Nat.le_refl _) _⟩, ⟨heap_alloc_new _ _⟩⟩
  case round =>
    obtain ⟨k, hk, rfl, hb, hg⟩ := hrel
    by_cases hlt : k < 256
    · have hc : wr.cell? ⟨w.heap.size, k, none⟩ = some (.int .u32 0) := by
        rw [cell_of_row wr _ k _ _ _ hg.out, crcCells_get k k hlt, if_neg (Nat.lt_irrefl k)]
      have hf : wr.frozen? ⟨w.heap.size, k, none⟩ = false := frozen_of_row wr _ k _ _ hg.out
      have hd : decide ((k : Int) < 256) = true := by simpa using (by omega : (k : Int) < 256)
      go_wp2
      obtain ⟨wo, rfl⟩ : ∃ wo : World, wo = wr := ⟨_, rfl⟩
      go_loop [2, 8] (fun v2 v8 => ∃ m : Nat, m ≤ 8 ∧ v8 = .int .i64 m ∧ v2 = .int .u32 (crcTimes m k)) (fun _ v8 => 8 - (intOf v8).toNat)
      case atStart => exact ⟨0, by omega, rfl, rfl⟩
      case round =>
        obtain ⟨m, hm, rfl, rfl⟩ := hrel
        by_cases hml : m < 8
        · go_wp2_with (go_at_call 115; refine (crc_half.any _ _).mono ?_; rintro e w' ⟨rfl, rfl⟩)
          go_round
          case rel => exact ⟨m + 1, by omega, by go_num, rfl⟩
          case measure => simp [intOf]; omega
        · obtain rfl : m = 8 := by omega
          go_wp2
          go_roundw
          case rel =>
            refine ⟨k + 1, by omega, by go_num, ⟨hb.out.setCell (Nat.le_refl _) _⟩, ⟨?_⟩⟩
            rw [heap_setCell_same _ _ _ _ _ _ hg.out, crcCells_set]
          case measure => simp [intOf]; omega
    · obtain rfl : k = 256 := by omega
      go_wp2_with (first | (refine wpList_load_row rfl 172 _ rfl w.heap.size rfl 172 _ _ _ hg.out Try.underlying172 rfl crc_info ?_) | (refine wpList_store_row rfl 172 _ _ rfl w.heap.size _ rfl rfl 172 _ hg.out crc_info rfl crc_one ?_))
      refine bodyPost_ret (v := .agg (crcCells 256)) (results_cell_row rfl _ _ w.heap.size 172 _ (0, 0) _ rfl (setRow_heap _ _ _ _ _ _ hg.out) Try.underlying172 rfl crc_info) rfl ⟨rfl, below_setRow hb.out (Nat.le_refl _) _⟩

/-- The remainder behind n bytes. -/
def crcAt (s : ByteArray) : Nat → Int
  | 0 => 4294967295
  | n + 1 => Go.bits .xor .u32 (crcAt s n / 256) (crcTimes 8 (Go.bits .xor .u8 (crcAt s n % 256) (bt s n)))

theorem crc_cell {w : World} {g : Nat} (hg : w.heap[g]? = some (.cells (crcCells 256) 172 (0, 0))) (j : Int) (h0 : 0 ≤ j) (h1 : j < 256) : w.cell? ⟨g, j.toNat, none⟩ = some (.int .u32 (crcTimes 8 j)) := by
  rw [cell_of_row w g _ _ _ _ hg, crcCells_get 256 _ (by omega), if_pos (by omega), Int.toNat_of_nonneg h0]

set_option maxRecDepth 100000 in
set_option maxHeartbeats 1000000 in
theorem crc_Sum.any (s : ByteArray) (w : World) (hs : s.size ≤ 9223372036854775807) : Calls Try.prog 90 #[.string s] w fun e w' => e = .returned (.int .u32 (Go.bits .xor .u32 4294967295 (crcAt s s.size))) ∧ Below w.heap.size w w' := by
  go_enter Try.func90, Try.ntmps90
  go_wp2_with (first | (go_at_call 106; refine (crc_table.any _).mono ?_; rintro e w1 ⟨rfl, hb⟩) | (refine wpList_store_row rfl 172 _ _ rfl _ (crcCells 256) rfl rfl 172 Try.zeroCells172 (heap_alloc_new _ _) crc_info rfl crc_one ?_))
  have hb2 : Below w.heap.size w ((w1.alloc (.cells Try.zeroCells172 172)).setRow w1.heap.size (crcCells 256)) := below_setRow (hb.alloc hb.size _) hb.size _
  have hg2 := setRow_heap (w1.alloc (.cells Try.zeroCells172 172)) w1.heap.size _ (crcCells 256) _ _ (heap_alloc_new _ _)
  generalize hw2 : (w1.alloc (.cells Try.zeroCells172 172)).setRow w1.heap.size (crcCells 256) = w2 at hb2 hg2 ⊢
  clear hw2
  have HB := Aside0.mk hb2
  have HG := Aside0.mk hg2
  clear hb2 hg2 hb
  go_loop [3, 9] (fun v3 v9 => ∃ k : Nat, k ≤ s.size ∧ v9 = .int .i64 k ∧ v3 = .int .u32 (crcAt s k)) (fun _ v9 => s.size - (intOf v9).toNat)
  case atStart => exact ⟨0, by omega, rfl, rfl⟩
  case round =>
    obtain ⟨k, hk, rfl, rfl⟩ := hrel
    by_cases hlt : k < s.size
    · have hd : decide ((k : Int) < s.size) = true := by simpa using hlt
      have hx := bounds_u8 (wf_bits .xor .u8 (crcAt s k % 256) (s[k].toNat : Int))
      have hx0 : 0 ≤ bits .xor .u8 (crcAt s k % 256) (s[k].toNat : Int) := hx.1
      have hx1 : bits .xor .u8 (crcAt s k % 256) (s[k].toNat : Int) < 256 := by have := hx.2; omega
      have hc := crc_cell HG.out _ hx0 hx1
      have hbt : crcAt s (k + 1) = Go.bits .xor .u32 (crcAt s k / 256) (crcTimes 8 (Go.bits .xor .u8 (crcAt s k % 256) (s[k].toNat : Int))) := by
        show Go.bits .xor .u32 (crcAt s k / 256) (crcTimes 8 (Go.bits .xor .u8 (crcAt s k % 256) (bt s k))) = _
        rw [← bt_at s k hlt]
        rfl
      have HT := Aside0.mk hbt
      clear hbt hx
      go_wp2
      go_round
      case rel => exact ⟨k + 1, by omega, by go_num, by rw [HT.out]⟩
      case measure => simp [intOf]; omega
    · obtain rfl : k = s.size := by omega
      go_wp2
      go_ret
      exact ⟨rfl, HB.out⟩

def crc_Sum.f (a0 : ByteArray) : Option Int := if a0.size ≤ 9223372036854775807 then some (Go.bits .xor .u32 4294967295 (crcAt a0 a0.size)) else none
theorem crc_Sum.calls (a0 : ByteArray) (r : Int) (w : World) (h : crc_Sum.f a0 = some r) : Calls Try.prog 90 #[.string a0] w fun e w' => e = .returned (.int .u32 r) ∧ Below w.heap.size w w' := by
  unfold crc_Sum.f at h
  by_cases hs : a0.size ≤ 9223372036854775807
  · rw [if_pos hs] at h
    obtain rfl := Option.some.inj h
    exact crc_Sum.any a0 w hs
  · rw [if_neg hs] at h
    cases h

end Go.Proofs.Ytkolbflmihfokaa.Pcap
