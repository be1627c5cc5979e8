/- The pure laws of captures, part D: both readings of a capture's front find the same records. -/
import Derived.Test.YtkolbflmihfokaaPurePcapB
import Derived.Test.YtkolbflmihfokaaPcapx7
import Derived.Test.YtkolbflmihfokaaPcapx8
namespace Go.Proofs.Ytkolbflmihfokaa.Pure
open Go.RowKit Go.Proofs.Ytkolbflmihfokaa.Pcap Go.Proofs.YtkolbflmihfokaaW.PrintWords Go.Proofs.YtkolbflmihfokaaW.PrintLast Go.Proofs.YtkolbflmihfokaaW.PrintMore
set_option linter.unusedVariables false

/-- The number of the first n bytes. -/
def vN (s : ByteArray) : Nat → Nat
  | 0 => 0
  | n + 1 => 256 * vN s n + bN s n
theorem vN_lt (s : ByteArray) (n : Nat) : vN s n < 256 ^ n := by
  induction n with
  | zero => exact Nat.zero_lt_one
  | succ n ih =>
    have := bN_lt s n
    rw [vN, Nat.pow_succ]
    omega
theorem vN_small (s : ByteArray) (n : Nat) (hn : n ≤ 4) : vN s n < 4294967296 := Nat.lt_of_lt_of_le (vN_lt s n) (Nat.le_trans (Nat.pow_le_pow_right (by decide) hn) (by decide))

theorem wrap_bN (s : ByteArray) (i : Nat) : wrap64 (bt s (i : Int)) = ((bN s i : Nat) : Int) := by
  have := bN_lt s i
  rw [bt_bN]
  rw [w64 (by omega) (by omega)]
theorem wrap_succ (i : Nat) (h : i < 4611686018427387904) : wrap64 ((i : Int) + 1) = ((i + 1 : Nat) : Int) := by rw [w64 (by omega) (by omega)]; try omega

theorem value_l0 (s : ByteArray) (hs : s.size ≤ 4) (d : Nat) : ∀ (k i : Nat), i + d = s.size → d + 1 ≤ k → pcap_value.l0 k s ((vN s i : Nat) : Int) (s.size : Int) (i : Int) = some ((vN s s.size : Nat) : Int) := by
  induction d with
  | zero =>
    intro k i hi hk
    obtain ⟨k, rfl⟩ : ∃ m, k = m + 1 := ⟨k - 1, by omega⟩
    simp only [pcap_value.l0]
    rw [if_neg (by omega), show i = s.size by omega]
  | succ d ih =>
    intro k i hi hk
    obtain ⟨k, rfl⟩ : ∃ m, k = m + 1 := ⟨k - 1, by omega⟩
    simp only [pcap_value.l0]
    rw [if_pos (by omega), if_pos (by omega), if_pos (by omega), wrap_bN, wrap_succ i (by omega)]
    have hv := vN_lt s i
    have hb := bN_lt s i
    have hv2 : vN s i < 256 ^ 3 := Nat.lt_of_lt_of_le hv (Nat.pow_le_pow_right (by decide) (by omega))
    have hv3 : vN s i < 16777216 := hv2
    clear hv hv2
    have e1 : wrap64 (((vN s i : Nat) : Int) * 256) = ((vN s i : Nat) : Int) * 256 := by rw [w64 (by omega) (by omega)]; try omega
    rw [e1, bits_join .i64 62 (by decide) (fun n a b => by rw [IntKind.wrap_i64]; omega) 8 _ _ (by omega) (by omega) (by omega) (by omega) (by omega) (by omega)]
    have e2 : ((vN s i : Nat) : Int) * 256 + ((bN s i : Nat) : Int) = ((vN s (i + 1) : Nat) : Int) := by rw [vN]; omega
    rw [e2]
    exact ih k (i + 1) (by omega) (by omega)
theorem value_f (s : ByteArray) (hs : s.size ≤ 4) (k : Nat) (hk : 5 ≤ k) : pcap_value.f k s = some ((vN s s.size : Nat) : Int) := value_l0 s hs s.size k 0 (by omega) (by omega)

theorem small_l0 (s : ByteArray) (hs : s.size ≤ 4) (d : Nat) : ∀ (k i : Nat), i + d = s.size → d + 1 ≤ k → patchbayref4_Small.l0 k s ((vN s i : Nat) : Int) (s.size : Int) (i : Int) = some ((vN s s.size : Nat) : Int) := by
  induction d with
  | zero =>
    intro k i hi hk
    obtain ⟨k, rfl⟩ : ∃ m, k = m + 1 := ⟨k - 1, by omega⟩
    simp only [patchbayref4_Small.l0]
    rw [if_neg (by omega), show i = s.size by omega]
  | succ d ih =>
    intro k i hi hk
    obtain ⟨k, rfl⟩ : ∃ m, k = m + 1 := ⟨k - 1, by omega⟩
    simp only [patchbayref4_Small.l0]
    rw [if_pos (by omega), if_pos (by omega), if_pos (by omega), wrap_bN, wrap_succ i (by omega)]
    have hv := vN_lt s i
    have hb := bN_lt s i
    have hv2 : vN s i < 256 ^ 3 := Nat.lt_of_lt_of_le hv (Nat.pow_le_pow_right (by decide) (by omega))
    have hv3 : vN s i < 16777216 := hv2
    clear hv hv2
    have e1 : wrap64 (wrap64 (256 * ((vN s i : Nat) : Int)) + ((bN s i : Nat) : Int)) = ((vN s (i + 1) : Nat) : Int) := by rw [vN, w64 (x := 256 * ((vN s i : Nat) : Int)) (by omega) (by omega), w64 (by omega) (by omega)]; omega
    rw [e1]
    exact ih k (i + 1) (by omega) (by omega)
theorem small_f (s : ByteArray) (hs : s.size ≤ 4) (k : Nat) (hk : 5 ≤ k) : patchbayref4_Small.f k s = some ((vN s s.size : Nat) : Int) := small_l0 s hs s.size k 0 (by omega) (by omega)

/-- The number of the bytes from a to b. -/
def at_ (s : ByteArray) (a b : Nat) : Nat := vN (s.extract a b) (s.extract a b).size
theorem at_lt (s : ByteArray) (a b : Nat) (h : b ≤ a + 2) : at_ s a b < 65536 := by
  have h1 := vN_lt (s.extract a b) (s.extract a b).size
  have h2 : (s.extract a b).size ≤ 2 := by rw [ByteArray.size_extract]; omega
  exact Nat.lt_of_lt_of_le h1 (Nat.le_trans (Nat.pow_le_pow_right (by decide) h2) (by decide))
theorem at_lt4 (s : ByteArray) (a b : Nat) (h : b ≤ a + 4) : at_ s a b < 4294967296 := by
  unfold at_
  exact vN_small _ _ (by rw [ByteArray.size_extract]; omega)
theorem value_at (s : ByteArray) (a b k : Nat) (h : b ≤ a + 4) (hk : 5 ≤ k) : pcap_value.f k (s.extract a b) = some ((at_ s a b : Nat) : Int) := value_f _ (by rw [ByteArray.size_extract]; omega) k hk
theorem small_at (s : ByteArray) (a b k : Nat) (h : b ≤ a + 4) (hk : 5 ≤ k) : patchbayref4_Small.f k (s.extract a b) = some ((at_ s a b : Nat) : Int) := small_f _ (by rw [ByteArray.size_extract]; omega) k hk

theorem cut_cut (s : ByteArray) (i a b : Nat) (h : i + b ≤ s.size) : (s.extract i s.size).extract a b = s.extract (i + a) (i + b) := by
  rw [ByteArray.extract_extract, Nat.min_eq_left h]

theorem cut0 (s : ByteArray) (i b : Nat) (h : i + b ≤ s.size) : (s.extract i s.size).extract 0 b = s.extract i (i + b) := cut_cut s i 0 b h

/-- A record's parts. -/
structure Rec where
  n : Nat
  wh : Nat
  tm : Nat
  b : ByteArray
def recAt (s : ByteArray) (i : Nat) : Rec := ⟨at_ s (i + 6) (i + 8), at_ s (i + 4) (i + 6), at_ s i (i + 4), s.extract (i + 8) (i + 8 + at_ s (i + 6) (i + 8))⟩
/-- A valid record begins at i. -/
def okRec (s : ByteArray) (i : Nat) (last : Int) : Prop :=
  i + 12 ≤ s.size ∧ (recAt s i).n ≤ 2000 ∧ i + 12 + (recAt s i).n ≤ s.size ∧ last + (recAt s i).tm ≤ 1000000000 ∧ (recAt s i).wh / 16 ≤ 15 ∧
    recB (recAt s i).tm (whereOf (((recAt s i).wh / 16 : Nat) : Int) (((recAt s i).wh / 2 % 8 : Nat) : Int) ((recAt s i).wh % 2 == 1)) (recAt s i).b = s.extract i (i + 12 + (recAt s i).n)

theorem and7 (x : Nat) (h : x < 4611686018427387904) : Go.bits .and .i64 (x : Int) 7 = ((x % 8 : Nat) : Int) := by
  have := bits_mask .i64 62 (by decide) (fun n h0 h1 => by rw [IntKind.wrap_i64]; omega) 3 (by decide) (x : Int) (by omega) (by omega)
  simpa using this
theorem and1 (x : Nat) (h : x < 4611686018427387904) : Go.bits .and .i64 (x : Int) 1 = ((x % 2 : Nat) : Int) := by
  have := bits_mask .i64 62 (by decide) (fun n h0 h1 => by rw [IntKind.wrap_i64]; omega) 1 (by decide) (x : Int) (by omega) (by omega)
  simpa using this
theorem beq_one (x : Nat) : (((x : Nat) : Int) == 1) = (x == 1) := by
  rw [Bool.eq_iff_iff]
  simp only [beq_iff_eq]
  omega
theorem neq_list (a b : ByteArray) : (a.toList != b.toList) = true ↔ ¬ a = b := by
  constructor
  · intro h e
    rw [e] at h
    simp at h
  · intro h
    rw [bne_iff_ne]
    intro e
    apply h
    have h2 : a.data.toList = b.data.toList := by rw [← ByteArray.toList_eq, ← ByteArray.toList_eq]; exact e
    exact ByteArray.ext (Array.toList_inj.1 h2)

theorem next_j1 (k : Nat) (x8 a b c : Int) (d : Bool) (e : ByteArray) : pcap_next.j1 (k + 1) x8 false a b c d e = some (a, b, c, d, e, x8, true) := by
  simp only [pcap_next.j1]
  rw [if_neg (by decide)]
theorem next_j1_no (k : Nat) (x8 a b c : Int) (d : Bool) (e : ByteArray) : pcap_next.j1 (k + 1) x8 true a b c d e = some (0, 0, 0, false, (⟨#[]⟩ : ByteArray), 0, false) := by
  simp only [pcap_next.j1, if_true]

/-- What next finds at i. -/
theorem next_at (s : ByteArray) (i : Nat) (last : Int) (k : Nat) (hsz : s.size ≤ 1000000) (hi : i ≤ s.size) (h0 : 0 ≤ last) (h1 : last ≤ 1000000000) (hk : 20 ≤ k) :
    (okRec s i last → pcap_next.f k (s.extract i s.size) last = some (last + (recAt s i).tm, (((recAt s i).wh / 16 : Nat) : Int), (((recAt s i).wh / 2 % 8 : Nat) : Int), ((recAt s i).wh % 2 == 1), (recAt s i).b, ((12 + (recAt s i).n : Nat) : Int), true)) ∧
      (¬ okRec s i last → pcap_next.f k (s.extract i s.size) last = some (0, 0, 0, false, (⟨#[]⟩ : ByteArray), 0, false)) := by
  have hR : (s.extract i s.size).size = s.size - i := by rw [ByteArray.size_extract, Nat.min_self]
  unfold pcap_next.f
  by_cases c12 : i + 12 ≤ s.size
  · rw [if_neg (by rw [hR]; omega), if_pos (by decide), if_pos (by rw [hR]; omega), cut_cut s i 6 8 (by omega), value_at s (i + 6) (i + 8) k (by omega) (by omega)]
    rw [Option.bind_some]
    have hn := at_lt s (i + 6) (i + 8) (by omega)
    have hwh := at_lt s (i + 4) (i + 6) (by omega)
    have htm := at_lt4 s i (i + 4) (by omega)
    unfold okRec
    have er : recAt s i = ⟨at_ s (i + 6) (i + 8), at_ s (i + 4) (i + 6), at_ s i (i + 4), s.extract (i + 8) (i + 8 + at_ s (i + 6) (i + 8))⟩ := rfl
    rw [er]
    obtain ⟨k, rfl⟩ : ∃ m, k = m + 1 := ⟨k - 1, by omega⟩
    have v4 := value_at s (i + 4) (i + 6) k (by omega) (by omega)
    have v0 := value_at s i (i + 4) k (by omega) (by omega)
    have hbs : ∀ q, i + 8 + q ≤ s.size → (s.extract (i + 8) (i + 8 + q)).size = q := fun q hq => by rw [ByteArray.size_extract, Nat.min_eq_left hq]; omega
    generalize at_ s (i + 6) (i + 8) = n at hn ⊢
    generalize at_ s (i + 4) (i + 6) = wh at hwh v4 ⊢
    generalize at_ s i (i + 4) = tm at htm v0 ⊢
    clear er
    have ew : Aside0 (wrap64 (wrap64 (8 + ((n : Nat) : Int)) + 4) = ((12 + n : Nat) : Int)) := ⟨by rw [w64 (x := 8 + ((n : Nat) : Int)) (by omega) (by omega), w64 (by omega) (by omega)]; omega⟩
    rw [ew.out]

    by_cases cn : n ≤ 2000
    · rw [if_neg (show ¬ ((n : Nat) : Int) > 2000 by omega)]
      simp only [pcap_next.j0, decide_eq_true_eq]
      by_cases cl : i + 12 + n ≤ s.size
      · rw [if_neg (show ¬ ((s.extract i s.size).size : Int) < ((12 + n : Nat) : Int) by rw [hR]; omega), if_pos (by decide), if_pos (show (6 : Int) ≤ ((s.extract i s.size).size : Int) by rw [hR]; omega), cut_cut s i 4 6 (by omega), v4]
        rw [Option.bind_some]
        rw [if_pos (by decide), if_pos (show (4 : Int) ≤ ((s.extract i s.size).size : Int) by rw [hR]; omega), cut0 s i 4 (by omega), v0]
        rw [Option.bind_some]
        have e8 : Aside0 (wrap64 (8 + ((n : Nat) : Int)) = ((8 + n : Nat) : Int)) := ⟨by rw [w64 (by omega) (by omega)]; try omega⟩
        have et : Aside0 (wrap64 (last + ((tm : Nat) : Int)) = last + ((tm : Nat) : Int)) := ⟨by rw [w64 (by omega) (by omega)]; try omega⟩
        rw [e8.out, et.out, if_pos (by omega), if_pos (by rw [hR]; omega), Int.toNat_natCast, cut_cut s i 8 (8 + n) (by omega), show i + (8 + n) = i + 8 + n by omega]
        have ed : Aside0 (((wh : Nat) : Int) / 16 = ((wh / 16 : Nat) : Int)) := ⟨by omega⟩
        have ed2 : Aside0 (((wh : Nat) : Int) / 2 = ((wh / 2 : Nat) : Int)) := ⟨by omega⟩
        rw [ed.out, ed2.out, and7 (wh / 2) (by omega), and1 wh (by omega), beq_one]
        obtain ⟨k, rfl⟩ : ∃ m, k = m + 1 := ⟨k - 1, by omega⟩
        by_cases ct : last + ((tm : Nat) : Int) > 1000000000
        · rw [if_pos ct, next_j1_no]
          exact ⟨fun h => absurd h.2.2.2.1 (by omega), fun _ => by first | rfl | trivial⟩
        · rw [if_neg ct]
          by_cases cw : wh / 16 ≤ 15
          · rw [if_neg (show ¬ ((wh / 16 : Nat) : Int) ≥ 16 by omega)]
            have hb := hbs n (by omega)
            rw [record_f (k + 1) (by omega) _ _ _ last _ _ (by rw [hb]; omega) (by omega) (by omega) (by omega) (by omega) (by omega), show last + ((tm : Nat) : Int) - last = ((tm : Nat) : Int) by omega]
            rw [Option.bind_some]
            rw [if_pos (by omega), if_pos (by rw [hR]; omega), Int.toNat_natCast, cut0 s i (12 + n) (by omega), show i + (12 + n) = i + 12 + n by omega]
            generalize hq : recB ((tm : Nat) : Int) (whereOf ((wh / 16 : Nat) : Int) ((wh / 2 % 8 : Nat) : Int) (wh % 2 == 1)) (s.extract (i + 8) (i + 8 + n)) = q
            by_cases cq : q = s.extract i (i + 12 + n)
            · have : (q.toList != (s.extract i (i + 12 + n)).toList) = false := by
                have := neq_list q (s.extract i (i + 12 + n))
                cases hh : (q.toList != (s.extract i (i + 12 + n)).toList) with
                | false => rfl
                | true => exact absurd cq (this.1 hh)
              rw [this, next_j1]
              exact ⟨fun _ => rfl, fun h => absurd ⟨c12, cn, cl, by omega, cw, cq⟩ h⟩
            · rw [(neq_list q (s.extract i (i + 12 + n))).2 cq, next_j1_no]
              exact ⟨fun h => absurd h.2.2.2.2.2 cq, fun _ => by first | rfl | trivial⟩
          · rw [if_pos (show ((wh / 16 : Nat) : Int) ≥ 16 by omega), next_j1_no]
            exact ⟨fun h => absurd h.2.2.2.2.1 cw, fun _ => by first | rfl | trivial⟩
      · rw [if_pos (show ((s.extract i s.size).size : Int) < ((12 + n : Nat) : Int) by rw [hR]; omega)]
        exact ⟨fun h => absurd h.2.2.1 cl, fun _ => by first | rfl | trivial⟩
    · rw [if_pos (show ((n : Nat) : Int) > 2000 by omega)]
      simp only [pcap_next.j0, if_true]
      exact ⟨fun h => absurd h.2.1 cn, fun _ => by first | rfl | trivial⟩
  · rw [if_pos (by rw [hR]; omega)]
    exact ⟨fun h => absurd h.1 c12, fun _ => by first | rfl | trivial⟩

end Go.Proofs.Ytkolbflmihfokaa.Pure
