/- The pure law of PcapWrites: both texts of a capture are the same. -/
import Derived.Test.YtkolbflmihfokaaPurePcapB
import Derived.Test.YtkolbflmihfokaaPcapx5
import Derived.Test.YtkolbflmihfokaaPcapXWrite
import Derived.Test.YtkolbflmihfokaaPcapV
namespace Go.Proofs.Ytkolbflmihfokaa.Pure
open Go.RowKit Go.Proofs.Ytkolbflmihfokaa.Pcap Go.Proofs.YtkolbflmihfokaaW.PrintWords Go.Proofs.YtkolbflmihfokaaW.PrintLast Go.Proofs.YtkolbflmihfokaaW.PrintMore

theorem check_one (k : Nat) (hk : 2 ≤ k) : pcap_Check.f k ([(⟨(-1), 0, 0, false, (⟨#[]⟩ : ByteArray)⟩ : S26)] : List S26) = some 10 := by
  obtain ⟨k, rfl⟩ : ∃ m, k = m + 1 + 1 := ⟨k - 2, by omega⟩
  rfl

theorem rec_eq {γ δ : Type} (F : ByteArray → Option γ) (G : ByteArray → Option δ) (n m kw : Nat) (t node port last : Int) (out : Bool) (b : ByteArray) (hk : 30000 ≤ kw) (hb : b.size ≤ 2000) (ht : 0 ≤ t - last) (ht2 : t - last ≤ 9223372036854775807)
    (h0 : 0 ≤ node) (h1 : node ≤ 1000000) (p0 : 0 ≤ port) (p1 : port ≤ 7) (hn : n ≤ 1000000) (hm : m ≤ 1000000) :
    ((pcap_record.f kw t node port out b last).bind fun t122 => (if 0 < t122.size then (if n + t122.size < 140737488355328 then F t122 else none) else none)) = F (recB (t - last) (whereOf node port out) b) ∧
      ((patchbayref4_RecordText.f kw t node port out b last).bind fun t138 => (if m + t138.size ≤ 9223372036854775807 then G t138 else none)) = G (recB (t - last) (whereOf node port out) b) := by
  rw [record_f kw (by omega) t node port last out b (by omega) (by omega) h0 h1 p0 p1, text_f kw t node port last out b (by omega) (by omega) (by omega) h0 h1 p0 p1]
  have hs := recB_size (t - last) (whereOf node port out) b
  generalize recB (t - last) (whereOf node port out) b = y at hs
  simp only [Option.bind_some]
  rw [if_pos (show 0 < y.size by omega), if_pos (show n + y.size < 140737488355328 by omega), if_pos (show m + y.size ≤ 9223372036854775807 by omega)]
  exact ⟨rfl, rfl⟩

/-- What is to be shown of an element and what follows. -/
def Both (kw : Nat) (x : S26) (xs : List Int) (last : Int) (l : List S26) (i : Nat) (r : Int) : Prop :=
  r = 0 → ∃ t, ((pcap_record.f kw x.f0 x.f1 x.f2 x.f3 x.f4 last).bind fun t122 => (if 0 < t122.size then (if xs.length + t122.size < 140737488355328 then (pcap_Write.l0 kw (xs ++ bytesOf t122) x.f0 l (l.length : Int) ((i + 1 : Nat) : Int)) else (none)) else none)) = some (t, 0) ∧
    ((patchbayref4_RecordText.f kw x.f0 x.f1 x.f2 x.f3 x.f4 last).bind fun t138 => (if (strOfNums xs).size + t138.size ≤ 9223372036854775807 then (patchbayref4_CaptureText.l0 kw (strOfNums xs ++ t138) x.f0 l (l.length : Int) ((i + 1 : Nat) : Int)) else (none))) = some t

theorem both_step (kw : Nat) (x : S26) (xs : List Int) (last : Int) (l : List S26) (i : Nat) (r : Int) (c0 : ¬ x.f0 < 0) (c1 : ¬ x.f0 > 1000000000) (c2 : ¬ x.f1 < 0) (c3 : ¬ x.f1 > 15) (c4 : ¬ x.f2 < 0) (c5 : ¬ x.f2 > 7) (c6 : ¬ (x.f4.size : Int) > 2000) (hle : ¬ x.f0 < last) (hp0 : 0 ≤ last) (hk : 30000 ≤ kw) (hxs : xs.length ≤ 1000000)
    (hr : r = 0 → ∃ t, pcap_Write.l0 kw (xs ++ bytesOf (recB (x.f0 - last) (whereOf x.f1 x.f2 x.f3) x.f4)) x.f0 l (l.length : Int) ((i + 1 : Nat) : Int) = some (t, 0) ∧ patchbayref4_CaptureText.l0 kw (strOfNums (xs ++ bytesOf (recB (x.f0 - last) (whereOf x.f1 x.f2 x.f3) x.f4))) x.f0 l (l.length : Int) ((i + 1 : Nat) : Int) = some t) :
    Both kw x xs last l i r := by
  intro h
  obtain ⟨t, h1, h2⟩ := hr h
  refine ⟨t, ?_, ?_⟩
  · exact (rec_eq (fun t122 => pcap_Write.l0 kw (xs ++ bytesOf t122) x.f0 l (l.length : Int) ((i + 1 : Nat) : Int)) (fun _ => (none : Option Int)) xs.length 0 kw x.f0 x.f1 x.f2 last x.f3 x.f4 hk (by omega) (by omega) (by omega) (by omega) (by omega) (by omega) (by omega) hxs (by omega)).1.trans h1
  · refine (rec_eq (fun _ => (none : Option Int)) (fun t138 => patchbayref4_CaptureText.l0 kw (strOfNums xs ++ t138) x.f0 l (l.length : Int) ((i + 1 : Nat) : Int)) 0 (strOfNums xs).size kw x.f0 x.f1 x.f2 last x.f3 x.f4 hk (by omega) (by omega) (by omega) (by omega) (by omega) (by omega) (by omega) (by omega) (by rw [strOfNums_size]; omega)).2.trans ?_
    have hb : strOfNums xs ++ recB (x.f0 - last) (whereOf x.f1 x.f2 x.f3) x.f4 = strOfNums (xs ++ bytesOf (recB (x.f0 - last) (whereOf x.f1 x.f2 x.f3) x.f4)) := by rw [← strOfNums_append, strOfNums_bytes]
    show patchbayref4_CaptureText.l0 kw (strOfNums xs ++ recB (x.f0 - last) (whereOf x.f1 x.f2 x.f3) x.f4) x.f0 l (l.length : Int) ((i + 1 : Nat) : Int) = some t
    rw [hb]
    exact h2

/-- Either both validations find the same fault, or both writings give the same bytes. -/
theorem loop_same (l : List S26) (hl : l.length ≤ 400) (K : Nat) (hK : 30000 ≤ K) (d : Nat) : ∀ (i k kw : Nat) (last : Int) (xs : List Int), i + d = l.length → (i = 0 → last = 0) → (0 < i → last = (rd_T26 l ((i : Int) - 1)).f0) → 0 ≤ last → last ≤ 1000000000 → 2 * d + 1 ≤ k → d + K ≤ kw → xs.length ≤ i * 2012 + 4 →
    ∃ r, pcap_Check.l0 k last l (l.length : Int) i = some r ∧ patchbayref4_CaptureFault.l0 k l l (l.length : Int) i = some r ∧
      (r = 0 → ∃ t, pcap_Write.l0 kw xs last l (l.length : Int) i = some (t, 0) ∧ patchbayref4_CaptureText.l0 kw (strOfNums xs) last l (l.length : Int) i = some t) := by
  induction d with
  | zero =>
    intro i k kw last xs hi _ _ _ _ hk hkw _
    obtain ⟨k, rfl⟩ : ∃ m, k = m + 1 := ⟨k - 1, by omega⟩
    obtain ⟨kw, rfl⟩ : ∃ m, kw = m + 1 := ⟨kw - 1, by omega⟩
    refine ⟨0, ?_, ?_, fun _ => ⟨strOfNums xs, ?_, ?_⟩⟩
    · simp only [pcap_Check.l0]; rw [if_neg (by omega)]
    · simp only [patchbayref4_CaptureFault.l0]; rw [if_neg (by omega)]
    · simp only [pcap_Write.l0]; rw [if_neg (by omega)]
    · simp only [patchbayref4_CaptureText.l0]; rw [if_neg (by omega)]
  | succ d ih =>
    intro i k kw last xs hi h0 h1 hp0 hp1 hk hkw hxs
    obtain ⟨k, rfl⟩ : ∃ m, k = m + 1 + 1 := ⟨k - 2, by omega⟩
    obtain ⟨kw, rfl⟩ : ∃ m, kw = m + 1 := ⟨kw - 1, by omega⟩
    have hkK : K ≤ kw := by omega
    have hxm : xs.length ≤ 1000000 := by omega
    have hlt : (i : Int) < (l.length : Int) := by omega
    have hge : 0 ≤ (i : Int) := by omega
    simp only [pcap_Check.l0, patchbayref4_CaptureFault.l0, pcap_Write.l0, patchbayref4_CaptureText.l0, if_pos hlt, if_pos hge]
    generalize he : rd_T26 l (i : Int) = x
    by_cases c0 : x.f0 < 0
    · simp only [if_pos c0]
      exact ⟨10, by simp only [pcap_Check.j1, if_true], by simp only [patchbayref4_CaptureFault.j1, if_true], fun h => absurd h (by decide)⟩
    simp only [if_neg c0]
    by_cases c1 : x.f0 > 1000000000
    · simp only [if_pos c1]
      exact ⟨10, by simp only [pcap_Check.j1, if_true], by simp only [patchbayref4_CaptureFault.j1, if_true], fun h => absurd h (by decide)⟩
    simp only [if_neg c1]
    by_cases c2 : x.f1 < 0
    · simp only [if_pos c2]
      exact ⟨10, by simp only [pcap_Check.j1, if_true], by simp only [patchbayref4_CaptureFault.j1, if_true], fun h => absurd h (by decide)⟩
    simp only [if_neg c2]
    by_cases c3 : x.f1 > 15
    · simp only [if_pos (show x.f1 ≥ 16 by omega), if_pos c3]
      exact ⟨10, by simp only [pcap_Check.j1, if_true], by simp only [patchbayref4_CaptureFault.j1, if_true], fun h => absurd h (by decide)⟩
    simp only [if_neg (show ¬ x.f1 ≥ 16 by omega), if_neg c3]
    by_cases c4 : x.f2 < 0
    · simp only [if_pos c4]
      exact ⟨10, by simp only [pcap_Check.j1, if_true], by simp only [patchbayref4_CaptureFault.j1, if_true], fun h => absurd h (by decide)⟩
    simp only [if_neg c4]
    simp only [pcap_Check.j1, patchbayref4_CaptureFault.j1, decide_eq_true_eq]
    by_cases c5 : x.f2 > 7
    · simp only [if_pos (show x.f2 ≥ 8 by omega), if_pos c5]
      exact ⟨10, rfl, rfl, fun h => absurd h (by decide)⟩
    simp only [if_neg (show ¬ x.f2 ≥ 8 by omega), if_neg c5]
    by_cases c6 : (x.f4.size : Int) > 2000
    · simp only [if_pos c6]
      exact ⟨2, rfl, rfl, fun h => absurd h (by decide)⟩
    simp only [if_neg c6]
    have e0 : (xs ++ bytesOf (recB (x.f0 - last) (whereOf x.f1 x.f2 x.f3) x.f4)).length ≤ (i + 1) * 2012 + 4 := by
      rw [List.length_append, bytesOf_length, recB_size]
      omega
    have e1 : i + 1 + d = l.length := by omega
    have e2 : i + 1 = 0 → x.f0 = 0 := fun h => absurd h (by omega)
    have e3 : 0 ≤ x.f0 := by omega
    have e4 : x.f0 ≤ 1000000000 := by omega
    have e5 : 2 * d + 1 ≤ k := by omega
    have e6 : d + K ≤ kw := by omega
    rw [show wrap64 ((i : Int) + 1) = ((i + 1 : Nat) : Int) by unfold wrap64; omega]
    have hn : x.f0 = (rd_T26 l (((i + 1 : Nat) : Int) - 1)).f0 := by
      rw [show ((i + 1 : Nat) : Int) - 1 = (i : Int) by omega, he]
    have rest : ∀ (hle : ¬ x.f0 < last), ∃ r, pcap_Check.l0 k x.f0 l (l.length : Int) ((i + 1 : Nat) : Int) = some r ∧ patchbayref4_CaptureFault.l0 k l l (l.length : Int) ((i + 1 : Nat) : Int) = some r ∧ Both kw x xs last l i r :=
by
      intro hle
      obtain ⟨r, ha, hb, hr⟩ := ih (i + 1) k kw x.f0 _ e1 e2 (fun _ => hn) e3 e4 e5 e6 e0
      exact ⟨r, ha, hb, both_step kw x xs last l i r c0 c1 c2 c3 c4 c5 c6 hle hp0 (Nat.le_trans hK hkK) hxm hr⟩
    by_cases c7 : (i : Int) > 0
    · have hw1 : wrap64 ((i : Int) - 1) = (i : Int) - 1 := by unfold wrap64; omega
      simp only [if_pos c7, hw1, if_pos (show 0 ≤ (i : Int) - 1 by omega), if_pos (show (i : Int) - 1 < (l.length : Int) by omega)]
      have hlast := h1 (by omega)
      rw [← hlast]
      by_cases c8 : x.f0 < last
      · simp only [if_pos c8]
        exact ⟨3, rfl, rfl, fun h => absurd h (by decide)⟩
      · simp only [if_neg c8]
        exact rest c8
    · have hlast := h0 (by omega)
      simp only [if_neg c7, if_neg (show ¬ x.f0 < last by omega)]
      exact rest (by omega)

theorem PcapWrites (l : List S26) (_ : l.length * 48 ≤ 140737488351232 ∧ ∀ x ∈ l, v26 x) : ∃ k, patchbaylaw4_PcapWrites.f k l = some true := by
  refine ⟨40000, ?_⟩
  unfold patchbaylaw4_PcapWrites.f
  have hone : pcap_Write.f 40000 ([(⟨(-1), 0, 0, false, (⟨#[]⟩ : ByteArray)⟩ : S26)] : List S26) = some ((⟨#[]⟩ : ByteArray), 10) := by
    unfold pcap_Write.f
    rw [check_one 40000 (by omega)]
    rfl
  rw [hone]
  simp only [Option.bind_some, if_true]
  have hm0 : 0 ≤ mn (l.length : Int) 40 := by unfold mn; split <;> omega
  have hm1 : mn (l.length : Int) 40 ≤ (l.length : Int) := by unfold mn; split <;> omega
  have hm2 : mn (l.length : Int) 40 ≤ 40 := by unfold mn; split <;> omega
  rw [if_pos hm0, if_pos hm1]
  have hlen : (l.take (mn (l.length : Int) 40).toNat).length ≤ 40 := by rw [List.length_take]; omega
  generalize l.take (mn (l.length : Int) 40).toNat = y at hlen ⊢
  obtain ⟨r, hr1, hr2, hr3⟩ := loop_same y (by omega) 30000 (Nat.le_refl _) y.length 0 40000 40000 0 [80, 66, 67, 49] (by omega) (fun _ => rfl) (fun h => by omega) (by omega) (by omega) (by omega) (by omega) (by simp)
  have hc : pcap_Check.f 40000 y = some r := by
    unfold pcap_Check.f
    rw [if_neg (by omega)]
    exact hr1
  have hf : patchbayref4_CaptureFault.f 40000 y = some r := by
    unfold patchbayref4_CaptureFault.f
    rw [if_neg (by omega)]
    exact hr2
  unfold pcap_Write.f
  rw [hc]
  simp only [Option.bind_some]
  by_cases c : r = 0
  · subst c
    obtain ⟨t, ht1, ht2⟩ := hr3 rfl
    have hm : (⟨#[80, 66, 67, 49]⟩ : ByteArray) = strOfNums [80, 66, 67, 49] := rfl
    have hct : patchbayref4_CaptureText.f 40000 y = some t := by
      unfold patchbayref4_CaptureText.f
      rw [hm]
      exact ht2
    rw [if_pos rfl]
    have ht1' : pcap_Write.l0 40000 [80, 66, 67, 49] 0 y (y.length : Int) 0 = some (t, 0) := ht1
    rw [ht1']
    simp only [Option.bind_some, hf, if_true, hct]
    simp
  · rw [if_neg c]
    simp only [Option.bind_some, hf]
    rw [if_neg c]
    simp

end Go.Proofs.Ytkolbflmihfokaa.Pure
