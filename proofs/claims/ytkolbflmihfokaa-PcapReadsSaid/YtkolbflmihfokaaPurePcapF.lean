/- The pure laws of captures, part F: PcapReads. -/
import Derived.Test.YtkolbflmihfokaaPurePcapE
import Derived.Test.YtkolbflmihfokaaPcapx10
namespace Go.Proofs.Ytkolbflmihfokaa.Pure
open Go.RowKit Go.Proofs.Ytkolbflmihfokaa.Pcap Go.Proofs.YtkolbflmihfokaaW.PrintWords Go.Proofs.YtkolbflmihfokaaW.PrintLast Go.Proofs.YtkolbflmihfokaaW.PrintMore
set_option linter.unusedVariables false

/-- Each record takes twelve bytes at least. -/
theorem recover_len (s : ByteArray) (hsz : s.size ≤ 1000000) (d : Nat) : ∀ (i k : Nat) (last : Int) (out l : List S26) (q : Int), i + d = s.size → 0 ≤ last → last ≤ 1000000000 → d + 30 ≤ k → pcap_Recover.l0 k s out i last = some (l, q) → 12 * (l.length : Int) + i ≤ q + 12 * (out.length : Int) := by
  induction d using Nat.strongRecOn with
  | _ d ih =>
    intro i k last out l q hi h0 h1 hk h
    obtain ⟨k, rfl⟩ : ∃ m, k = m + 1 := ⟨k - 1, by omega⟩
    by_cases hl : out.length < 400
    · by_cases ho : okRec s i last
      · rw [(recover_at s i last k out hsz h0 h1 (by omega) hl (by omega)).1 ho] at h
        obtain ⟨o1, o2, o3, o4, _⟩ := ho
        have h2 := ih (s.size - (i + 12 + (recAt s i).n)) (by omega) (i + 12 + (recAt s i).n) k (last + (recAt s i).tm) (out ++ [recOf s i last]) l q (by omega) (by omega) o4 (by omega) h
        rw [List.length_append] at h2
        simp only [List.length_cons, List.length_nil] at h2
        omega
      · rw [(recover_at s i last k out hsz h0 h1 (by omega) hl (by omega)).2 ho] at h
        simp only [Option.some.injEq, Prod.mk.injEq] at h
        obtain ⟨rfl, rfl⟩ := h
        omega
    · have e : pcap_Recover.l0 (k + 1) s out i last = some (out, (i : Int)) := by
        simp only [pcap_Recover.l0]
        rw [if_neg (by omega)]
      rw [e] at h
      simp only [Option.some.injEq, Prod.mk.injEq] at h
      obtain ⟨rfl, rfl⟩ := h
      omega

theorem read_j0 (k : Nat) (b : Bool) : pcap_Read.j0 (k + 1) b = some (([] : List S26), if b = true then 9 else 8) := by
  simp only [pcap_Read.j0]
  cases b <;> rfl
theorem reads_j0 (k : Nat) (l : List S26) (e : Int) (b : Bool) : patchbaylaw4_PcapReads.j0 (k + 1) l e 8 b = if e = (if b = true then 9 else 8) then some ((l.length : Int) == 0) else some false := by
  simp only [patchbaylaw4_PcapReads.j0]
  cases b <;> rfl

theorem read_short (k : Nat) (s : ByteArray) (h : s.size < 4) : pcap_Read.f k s = some ([], 9) := by
  unfold pcap_Read.f
  rw [if_pos (by omega)]
theorem read_form (k : Nat) (s : ByteArray) (h : ¬ s.size < 4) (hm : ¬ (s.extract 0 4).toList = ([80, 66, 67, 49] : List UInt8)) : pcap_Read.f k s = some ([], 3) := by
  unfold pcap_Read.f
  rw [if_neg (by omega), if_pos (by decide), if_pos (by omega), if_neg hm]

/-- What is missing or spoilt behind the valid front. -/
def restB (s : ByteArray) (q : Nat) : Bool := decide (s.size - q < 12) || (decide (at_ s (q + 6) (q + 8) ≤ 2000) && decide (s.size - q < 12 + at_ s (q + 6) (q + 8)))

theorem rest_size (s : ByteArray) (q : Nat) : (s.extract q s.size).size = s.size - q := by rw [ByteArray.size_extract, Nat.min_self]

theorem read_rest (k : Nat) (hk : 10 ≤ k) (s : ByteArray) (l : List S26) (q : Nat) (hsz : s.size ≤ 1000000) (h : ¬ s.size < 4) (hm : (s.extract 0 4).toList = ([80, 66, 67, 49] : List UInt8)) (hr : pcap_Recover.f k s = some (l, (q : Int))) (hq : q ≤ s.size) (hl : l.length < 400) :
    pcap_Read.f k s = if q = s.size then some (l, 0) else some ([], if restB s q = true then 9 else 8) := by
  obtain ⟨k, rfl⟩ : ∃ m, k = m + 1 := ⟨k - 1, by omega⟩
  unfold pcap_Read.f
  rw [if_neg (by omega), if_pos (by decide), if_pos (by omega), if_pos hm, hr, Option.bind_some]
  by_cases ce : q = s.size
  · rw [if_pos (show ((q : Nat) : Int) = (s.size : Int) by omega), if_pos ce]
  · rw [if_neg (show ¬ ((q : Nat) : Int) = (s.size : Int) by omega), if_neg ce, if_neg (show ¬ (l.length : Int) = 400 by omega), if_pos (show 0 ≤ ((q : Nat) : Int) by omega), if_pos (show ((q : Nat) : Int) ≤ (s.size : Int) by omega), Int.toNat_natCast, rest_size]
    unfold restB
    by_cases c12 : s.size - q < 12
    · rw [if_pos (show ((s.size - q : Nat) : Int) < 12 by omega), read_j0, decide_eq_true c12, Bool.true_or]
    · rw [if_neg (show ¬ ((s.size - q : Nat) : Int) < 12 by omega), if_pos (by decide), if_pos (show (8 : Int) ≤ ((s.size - q : Nat) : Int) by omega), cut_cut s q 6 8 (by omega), value_at s (q + 6) (q + 8) (k + 1) (by omega) (by omega), Option.bind_some, decide_eq_false c12, Bool.false_or]
      have hn := at_lt s (q + 6) (q + 8) (by omega)
      generalize at_ s (q + 6) (q + 8) = n at hn ⊢
      by_cases cn : n ≤ 2000
      · rw [if_pos (show ((n : Nat) : Int) ≤ 2000 by omega), Option.bind_some, read_j0, decide_eq_true cn, Bool.true_and, w64 (x := 12 + ((n : Nat) : Int)) (by omega) (by omega)]
        congr 2
        have e : (((s.size - q : Nat) : Int) < 12 + ((n : Nat) : Int)) ↔ s.size - q < 12 + n := by omega
        simp only [e]
      · rw [if_neg (show ¬ ((n : Nat) : Int) ≤ 2000 by omega), read_j0, decide_eq_false cn, Bool.false_and]

theorem PcapReads (a0 : ByteArray) (h : a0.size ≤ 140737488351232) : ∃ k, patchbaylaw4_PcapReads.f k a0 = some true := by
  refine ⟨59999 + 1, ?_⟩
  unfold patchbaylaw4_PcapReads.f
  rw [read_short (59999 + 1) (⟨#[]⟩ : ByteArray) (by decide), Option.bind_some, if_pos rfl]
  have hm0 : 0 ≤ mn (a0.size : Int) 3000 := by unfold mn; split <;> omega
  have hm1 : mn (a0.size : Int) 3000 ≤ (a0.size : Int) := by unfold mn; split <;> omega
  have hm2 : mn (a0.size : Int) 3000 ≤ 3000 := by unfold mn; split <;> omega
  rw [if_pos hm0, if_pos hm1]
  have hs : (a0.extract 0 (mn (a0.size : Int) 3000).toNat).size ≤ 3000 := by rw [ByteArray.size_extract]; omega
  generalize a0.extract 0 (mn (a0.size : Int) 3000).toNat = s at hs ⊢
  clear hm0 hm1 hm2 h
  obtain ⟨r, h1, h2, h3, h4, h5⟩ := fronts s (by omega) (59999 + 1) (by omega)
  rw [h2]
  by_cases c4 : s.size < 4
  · rw [read_short _ s c4, Option.bind_some, Option.bind_some, if_pos (show (s.size : Int) < 4 by omega), if_pos rfl]
    rfl
  · by_cases cm : (s.extract 0 4).toList = ([80, 66, 67, 49] : List UInt8)
    · have hq0 : ¬ r.2 = 0 := fun e => by
        rcases h5.1 e with h | h
        · exact c4 h
        · exact h cm
      have hlen : r.1.length < 400 := by
        have h6 := h1
        rw [recover_f, if_neg c4, if_pos cm] at h6
        have h7 := recover_len s (by omega) (s.size - 4) 4 59999 0 [] r.1 (r.2 : Int) (by omega) (by omega) (by omega) (by omega) h6
        simp only [List.length_nil] at h7
        omega
      rw [read_rest (59999 + 1) (by omega) s r.1 r.2 (by omega) c4 cm h1 h3 hlen]
      by_cases ce : r.2 = s.size
      · rw [if_pos ce, Option.bind_some, Option.bind_some, if_neg (show ¬ (s.size : Int) < 4 by omega), if_neg (show ¬ ((r.2 : Nat) : Int) = 0 by omega), if_pos (show ((r.2 : Nat) : Int) = (s.size : Int) by omega), if_pos rfl, same_f r.1 (by omega) _ (by omega), Option.bind_some]
      · rw [if_neg ce, Option.bind_some, Option.bind_some, if_neg (show ¬ (s.size : Int) < 4 by omega), if_neg (show ¬ ((r.2 : Nat) : Int) = 0 by omega), if_neg (show ¬ ((r.2 : Nat) : Int) = (s.size : Int) by omega), if_pos (show 0 ≤ ((r.2 : Nat) : Int) by omega), if_pos (show ((r.2 : Nat) : Int) ≤ (s.size : Int) by omega), Int.toNat_natCast, rest_size]
        unfold restB
        by_cases c12 : s.size - r.2 < 12
        · rw [if_pos (show ((s.size - r.2 : Nat) : Int) < 12 by omega), reads_j0, decide_eq_true c12, Bool.true_or, if_pos rfl]
          rfl
        · rw [if_neg (show ¬ ((s.size - r.2 : Nat) : Int) < 12 by omega), if_pos (by decide), if_pos (show (8 : Int) ≤ ((s.size - r.2 : Nat) : Int) by omega), cut_cut s r.2 6 8 (by omega), small_at s (r.2 + 6) (r.2 + 8) _ (by omega) (by omega), Option.bind_some, decide_eq_false c12, Bool.false_or]
          have hn := at_lt s (r.2 + 6) (r.2 + 8) (by omega)
          generalize at_ s (r.2 + 6) (r.2 + 8) = n at hn ⊢
          by_cases cn : n ≤ 2000
          · rw [if_pos (show ((n : Nat) : Int) ≤ 2000 by omega), Option.bind_some, reads_j0, decide_eq_true cn, Bool.true_and, w64 (x := 12 + ((n : Nat) : Int)) (by omega) (by omega)]
            have e : (((s.size - r.2 : Nat) : Int) < 12 + ((n : Nat) : Int)) ↔ s.size - r.2 < 12 + n := by omega
            simp only [e]
            rw [if_pos trivial]
            rfl
          · rw [if_neg (show ¬ ((n : Nat) : Int) ≤ 2000 by omega), reads_j0, decide_eq_false cn, Bool.false_and, if_pos rfl]
            rfl
    · have hq0 : r.2 = 0 := h5.2 (.inr cm)
      rw [read_form _ s c4 cm, Option.bind_some, Option.bind_some, if_neg (show ¬ (s.size : Int) < 4 by omega), if_pos (show ((r.2 : Nat) : Int) = 0 by omega), if_pos rfl]
      rfl

end Go.Proofs.Ytkolbflmihfokaa.Pure
