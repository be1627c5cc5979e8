/- The pure laws of captures, part E: PcapRecovers. -/
import Derived.Test.YtkolbflmihfokaaPurePcapD
import Derived.Test.YtkolbflmihfokaaPcapx9
namespace Go.Proofs.Ytkolbflmihfokaa.Pure
open Go.RowKit Go.Proofs.Ytkolbflmihfokaa.Pcap Go.Proofs.YtkolbflmihfokaaW.PrintWords Go.Proofs.YtkolbflmihfokaaW.PrintLast Go.Proofs.YtkolbflmihfokaaW.PrintMore
set_option linter.unusedVariables false

/-- The record at i. -/
def recOf (s : ByteArray) (i : Nat) (last : Int) : S26 := ⟨last + (recAt s i).tm, (((recAt s i).wh / 16 : Nat) : Int), (((recAt s i).wh / 2 % 8 : Nat) : Int), ((recAt s i).wh % 2 == 1), (recAt s i).b⟩

set_option maxRecDepth 100000 in
theorem front_full (s : ByteArray) (i : Nat) (last : Int) (k : Nat) (out : List S26) (hlen : ¬ out.length < 400) : patchbayref4_CaptureFront.l0 (k + 2) s out i last = some (out, (i : Int)) := by
  simp only [patchbayref4_CaptureFront.l0, patchbayref4_CaptureFront.j2, decide_eq_true_eq]
  rw [if_neg (show ¬ (out.length : Int) < 400 by omega)]
  simp

set_option maxRecDepth 100000 in
set_option maxHeartbeats 1000000 in
theorem front_at (s : ByteArray) (i : Nat) (last : Int) (k : Nat) (out : List S26) (hsz : s.size ≤ 1000000) (h0 : 0 ≤ last) (h1 : last ≤ 1000000000) (hk : 30000 ≤ k) (hlen : out.length < 400) (hi : i ≤ s.size) :
    (okRec s i last → patchbayref4_CaptureFront.l0 (k + 4) s out i last = patchbayref4_CaptureFront.l0 k s (out ++ [recOf s i last]) ((i + 12 + (recAt s i).n : Nat) : Int) (last + (recAt s i).tm)) ∧
      (¬ okRec s i last → patchbayref4_CaptureFront.l0 (k + 4) s out i last = some (out, (i : Int))) := by
  simp only [patchbayref4_CaptureFront.l0, patchbayref4_CaptureFront.j2, decide_eq_true_eq]
  have w12 : Aside0 (wrap64 ((i : Int) + 12) = ((i + 12 : Nat) : Int)) := ⟨by rw [w64 (by omega) (by omega)]; try omega⟩
  have w6 : Aside0 (wrap64 ((i : Int) + 6) = ((i + 6 : Nat) : Int)) := ⟨by rw [w64 (by omega) (by omega)]; try omega⟩
  have w8 : Aside0 (wrap64 ((i : Int) + 8) = ((i + 8 : Nat) : Int)) := ⟨by rw [w64 (by omega) (by omega)]; try omega⟩
  have w4 : Aside0 (wrap64 ((i : Int) + 4) = ((i + 4 : Nat) : Int)) := ⟨by rw [w64 (by omega) (by omega)]; try omega⟩
  rw [w12.out, w6.out, w8.out]
  by_cases c12 : i + 12 ≤ s.size
  · rw [if_pos (show ((i + 12 : Nat) : Int) ≤ (s.size : Int) by omega), if_pos (show (out.length : Int) < 400 by omega), if_pos (by omega), if_pos (by omega), if_pos (by omega), Int.toNat_natCast, Int.toNat_natCast, small_at s (i + 6) (i + 8) (k + 2) (by omega) (by omega)]
    rw [Option.bind_some]
    have hn := at_lt s (i + 6) (i + 8) (by omega)
    have hwh := at_lt s (i + 4) (i + 6) (by omega)
    have htm := at_lt4 s i (i + 4) (by omega)
    unfold okRec recOf
    have er : recAt s i = ⟨at_ s (i + 6) (i + 8), at_ s (i + 4) (i + 6), at_ s i (i + 4), s.extract (i + 8) (i + 8 + at_ s (i + 6) (i + 8))⟩ := rfl
    rw [er]
    have v4 := small_at s (i + 4) (i + 6) (k + 1) (by omega) (by omega)
    have v0 := small_at s i (i + 4) (k + 1) (by omega) (by omega)
    have hbs : ∀ q, i + 8 + q ≤ s.size → (s.extract (i + 8) (i + 8 + q)).size = q := fun q hq => by rw [ByteArray.size_extract, Nat.min_eq_left hq]; omega
    generalize at_ s (i + 6) (i + 8) = n at hn ⊢
    generalize at_ s (i + 4) (i + 6) = wh at hwh v4 ⊢
    generalize at_ s i (i + 4) = tm at htm v0 ⊢
    clear er
    have wn : Aside0 (wrap64 (((i + 12 : Nat) : Int) + ((n : Nat) : Int)) = ((i + 12 + n : Nat) : Int)) := ⟨by rw [w64 (by omega) (by omega)]; try omega⟩
    rw [wn.out]
    by_cases cn : n ≤ 2000
    · rw [if_neg (show ¬ ((n : Nat) : Int) > 2000 by omega)]
      simp only [patchbayref4_CaptureFront.j3, decide_eq_true_eq]
      by_cases cl : i + 12 + n ≤ s.size
      · rw [if_neg (show ¬ ((i + 12 + n : Nat) : Int) > (s.size : Int) by omega), w4.out, w6.out, w8.out, w12.out, wn.out, if_pos (by omega), if_pos (by omega), if_pos (by omega), Int.toNat_natCast, Int.toNat_natCast, v4]
        rw [Option.bind_some]
        rw [if_pos (by omega), if_pos (by omega), if_pos (by omega), Int.toNat_natCast, v0]
        rw [Option.bind_some]
        have e8 : Aside0 (wrap64 (((i + 8 : Nat) : Int) + ((n : Nat) : Int)) = ((i + 8 + n : Nat) : Int)) := ⟨by rw [w64 (by omega) (by omega)]; try omega⟩
        have et : Aside0 (wrap64 (last + ((tm : Nat) : Int)) = last + ((tm : Nat) : Int)) := ⟨by rw [w64 (by omega) (by omega)]; try omega⟩
        rw [e8.out, et.out, if_pos (by omega), if_pos (by omega), if_pos (by omega), Int.toNat_natCast, Int.toNat_natCast, Int.toNat_natCast]
        have ed : Aside0 (wrap64 (Int.tdiv ((wh : Nat) : Int) 16) = ((wh / 16 : Nat) : Int)) := ⟨by rw [Int.tdiv_eq_ediv_of_nonneg (by omega), w64 (by omega) (by omega)]; omega⟩
        have ed2 : Aside0 (wrap64 (Int.tdiv ((wh : Nat) : Int) 2) = ((wh / 2 : Nat) : Int)) := ⟨by rw [Int.tdiv_eq_ediv_of_nonneg (by omega), w64 (by omega) (by omega)]; omega⟩
        have em : Aside0 (Int.tmod ((wh / 2 : Nat) : Int) 8 = ((wh / 2 % 8 : Nat) : Int)) := ⟨by rw [Int.tmod_eq_emod_of_nonneg (by omega)]; omega⟩
        have em2 : Aside0 (Int.tmod ((wh : Nat) : Int) 2 = ((wh % 2 : Nat) : Int)) := ⟨by rw [Int.tmod_eq_emod_of_nonneg (by omega)]; omega⟩
        rw [ed.out, ed2.out, em.out, em2.out, beq_one]
        by_cases ct : last + ((tm : Nat) : Int) > 1000000000
        · rw [if_pos ct]
          simp only [patchbayref4_CaptureFront.j4, if_true]
          exact ⟨fun h => absurd h.2.2.2.1 (by omega), fun _ => by first | rfl | trivial⟩
        · rw [if_neg ct]
          by_cases cw : wh / 16 ≤ 15
          · rw [if_neg (show ¬ ((wh / 16 : Nat) : Int) > 15 by omega)]
            have hb := hbs n (by omega)
            rw [text_f (k + 1) _ _ _ last _ _ (by rw [hb]; omega) (by rw [hb]; omega) (by omega) (by omega) (by omega) (by omega) (by omega), show last + ((tm : Nat) : Int) - last = ((tm : Nat) : Int) by omega]
            rw [Option.bind_some]
            rw [if_pos (by omega), if_pos (by omega)]
            generalize hq : recB ((tm : Nat) : Int) (whereOf ((wh / 16 : Nat) : Int) ((wh / 2 % 8 : Nat) : Int) (wh % 2 == 1)) (s.extract (i + 8) (i + 8 + n)) = q
            by_cases cq : q = s.extract i (i + 12 + n)
            · have hh : (q.toList != (s.extract i (i + 12 + n)).toList) = false := by
                have := neq_list q (s.extract i (i + 12 + n))
                cases hh : (q.toList != (s.extract i (i + 12 + n)).toList) with
                | false => rfl
                | true => exact absurd cq (this.1 hh)
              simp only [patchbayref4_CaptureFront.j4, hh]
              rw [if_neg (by decide), if_pos (by omega), w12.out, wn.out]
              exact ⟨fun _ => rfl, fun h => absurd ⟨c12, cn, cl, by omega, cw, cq⟩ h⟩
            · simp only [patchbayref4_CaptureFront.j4]
              rw [if_pos ((neq_list q (s.extract i (i + 12 + n))).2 cq)]
              exact ⟨fun h => absurd h.2.2.2.2.2 cq, fun _ => by first | rfl | trivial⟩
          · rw [if_pos (show ((wh / 16 : Nat) : Int) > 15 by omega)]
            simp only [patchbayref4_CaptureFront.j4, if_true]
            exact ⟨fun h => absurd h.2.2.2.2.1 cw, fun _ => by first | rfl | trivial⟩
      · rw [if_pos (show ((i + 12 + n : Nat) : Int) > (s.size : Int) by omega)]
        exact ⟨fun h => absurd h.2.2.1 cl, fun _ => by first | rfl | trivial⟩
    · rw [if_pos (show ((n : Nat) : Int) > 2000 by omega)]
      simp only [patchbayref4_CaptureFront.j3, if_true]
      exact ⟨fun h => absurd h.2.1 cn, fun _ => by first | rfl | trivial⟩
  · rw [if_neg (show ¬ ((i + 12 : Nat) : Int) ≤ (s.size : Int) by omega)]
    refine ⟨fun h => absurd h.1 c12, fun _ => ?_⟩
    simp

theorem recover_at (s : ByteArray) (i : Nat) (last : Int) (k : Nat) (out : List S26) (hsz : s.size ≤ 1000000) (h0 : 0 ≤ last) (h1 : last ≤ 1000000000) (hk : 20 ≤ k) (hlen : out.length < 400) (hi : i ≤ s.size) :
    (okRec s i last → pcap_Recover.l0 (k + 1) s out i last = pcap_Recover.l0 k s (out ++ [recOf s i last]) ((i + 12 + (recAt s i).n : Nat) : Int) (last + (recAt s i).tm)) ∧
      (¬ okRec s i last → pcap_Recover.l0 (k + 1) s out i last = some (out, (i : Int))) := by
  have hx := next_at s i last k hsz hi h0 h1 hk
  simp only [pcap_Recover.l0]
  rw [if_pos (show (out.length : Int) < 400 by omega), if_pos (by omega), if_pos (by omega), Int.toNat_natCast]
  refine ⟨fun h => ?_, fun h => ?_⟩
  · rw [hx.1 h]
    simp only [Option.bind_some, if_true]
    rw [if_pos (by omega)]
    have hn := h.2.1
    have w : Aside0 (wrap64 ((i : Int) + ((12 + (recAt s i).n : Nat) : Int)) = ((i + 12 + (recAt s i).n : Nat) : Int)) := ⟨by rw [w64 (by omega) (by omega)]; try omega⟩
    rw [w.out]
    rfl
  · rw [hx.2 h]
    simp

theorem both_loops (s : ByteArray) (hsz : s.size ≤ 1000000) (d : Nat) : ∀ (i k k2 : Nat) (last : Int) (out : List S26), i + d = s.size → 0 ≤ last → last ≤ 1000000000 → d + 30 ≤ k → 4 * d + 30010 ≤ k2 → out.length ≤ 400 →
    ∃ r : List S26 × Nat, pcap_Recover.l0 k s out i last = some (r.1, (r.2 : Int)) ∧ patchbayref4_CaptureFront.l0 k2 s out i last = some (r.1, (r.2 : Int)) ∧ r.2 ≤ s.size ∧ i ≤ r.2 ∧ r.1.length ≤ 400 := by
  induction d using Nat.strongRecOn with
  | _ d ih =>
    intro i k k2 last out hi h0 h1 hk hk2 hlen
    obtain ⟨k, rfl⟩ : ∃ m, k = m + 1 := ⟨k - 1, by omega⟩
    obtain ⟨k2, rfl⟩ : ∃ m, k2 = m + 4 := ⟨k2 - 4, by omega⟩
    by_cases hl : out.length < 400
    · by_cases ho : okRec s i last
      · rw [(recover_at s i last k out hsz h0 h1 (by omega) hl (by omega)).1 ho, (front_at s i last k2 out hsz h0 h1 (by omega) hl (by omega)).1 ho]
        obtain ⟨o1, o2, o3, o4, _⟩ := ho
        obtain ⟨r, hr1, hr2, hr3, hr4, hr5⟩ := ih (s.size - (i + 12 + (recAt s i).n)) (by omega) (i + 12 + (recAt s i).n) k k2 (last + (recAt s i).tm) (out ++ [recOf s i last]) (by omega) (by omega) o4 (by omega) (by omega) (by rw [List.length_append]; simp; omega)
        exact ⟨r, hr1, hr2, hr3, by omega, hr5⟩
      · rw [(recover_at s i last k out hsz h0 h1 (by omega) hl (by omega)).2 ho, (front_at s i last k2 out hsz h0 h1 (by omega) hl (by omega)).2 ho]
        exact ⟨(out, i), rfl, rfl, by omega, by omega, by omega⟩
    · have e : pcap_Recover.l0 (k + 1) s out i last = some (out, (i : Int)) := by
        simp only [pcap_Recover.l0]
        rw [if_neg (by omega)]
      rw [e, show k2 + 4 = k2 + 2 + 2 from rfl, front_full s i last (k2 + 2) out hl]
      exact ⟨(out, i), rfl, rfl, by omega, by omega, by omega⟩

theorem recover_f (k : Nat) (s : ByteArray) : pcap_Recover.f (k + 1) s = if s.size < 4 then some ([], 0) else if (s.extract 0 4).toList = ([80, 66, 67, 49] : List UInt8) then pcap_Recover.l0 k s [] 4 0 else some ([], 0) := by
  unfold pcap_Recover.f
  by_cases c4 : s.size < 4
  · rw [if_pos (by omega), if_pos c4]
    simp only [pcap_Recover.j0, if_true]
  · rw [if_neg (by omega), if_neg c4, if_pos (by decide), if_pos (by omega)]
    by_cases cm : (s.extract 0 4).toList = ([80, 66, 67, 49] : List UInt8)
    · have hb : ((s.extract 0 4).toList != ([80, 66, 67, 49] : List UInt8)) = false := by rw [cm]; rfl
      rw [hb, if_pos cm]
      simp only [pcap_Recover.j0]
      rw [if_neg (by decide)]
    · have hb : ((s.extract 0 4).toList != ([80, 66, 67, 49] : List UInt8)) = true := bne_iff_ne.2 cm
      rw [hb, if_neg cm]
      simp only [pcap_Recover.j0, if_true]
set_option maxRecDepth 100000 in
theorem front_f (k : Nat) (s : ByteArray) : patchbayref4_CaptureFront.f (k + 1) s = if s.size < 4 then some ([], 0) else if (s.extract 0 4).toList = ([80, 66, 67, 49] : List UInt8) then patchbayref4_CaptureFront.l0 k s [] 4 0 else some ([], 0) := by
  unfold patchbayref4_CaptureFront.f
  by_cases c4 : s.size < 4
  · rw [if_pos (by omega), if_pos c4]
    simp only [patchbayref4_CaptureFront.j0, if_true]
  · rw [if_neg (by omega), if_neg c4, if_pos (by decide), if_pos (by omega)]
    by_cases cm : (s.extract 0 4).toList = ([80, 66, 67, 49] : List UInt8)
    · have hb : ((s.extract 0 4).toList != ([80, 66, 67, 49] : List UInt8)) = false := by rw [cm]; rfl
      rw [hb, if_pos cm]
      simp only [patchbayref4_CaptureFront.j0]
      rw [if_neg (by decide)]
    · have hb : ((s.extract 0 4).toList != ([80, 66, 67, 49] : List UInt8)) = true := bne_iff_ne.2 cm
      rw [hb, if_neg cm]
      simp only [patchbayref4_CaptureFront.j0, if_true]

/-- Both functions find the same records and the same place. -/
theorem fronts (s : ByteArray) (hsz : s.size ≤ 1000000) (k : Nat) (hk : 4 * s.size + 40000 ≤ k) :
    ∃ r : List S26 × Nat, pcap_Recover.f k s = some (r.1, (r.2 : Int)) ∧ patchbayref4_CaptureFront.f k s = some (r.1, (r.2 : Int)) ∧ r.2 ≤ s.size ∧ r.1.length ≤ 400 ∧
      (r.2 = 0 ↔ (s.size < 4 ∨ ¬ (s.extract 0 4).toList = ([80, 66, 67, 49] : List UInt8))) := by
  obtain ⟨k, rfl⟩ : ∃ m, k = m + 1 := ⟨k - 1, by omega⟩
  rw [recover_f, front_f]
  by_cases c4 : s.size < 4
  · rw [if_pos c4, if_pos c4]
    exact ⟨([], 0), rfl, rfl, by omega, by simp, ⟨fun _ => .inl c4, fun _ => rfl⟩⟩
  · rw [if_neg c4, if_neg c4]
    by_cases cm : (s.extract 0 4).toList = ([80, 66, 67, 49] : List UInt8)
    · rw [if_pos cm, if_pos cm]
      obtain ⟨r, hr1, hr2, hr3, hr4, hr5⟩ := both_loops s hsz (s.size - 4) 4 k k 0 [] (by omega) (by omega) (by omega) (by omega) (by omega) (by simp)
      refine ⟨r, hr1, hr2, hr3, hr5, ⟨fun h => by omega, fun h => ?_⟩⟩
      rcases h with h | h
      · omega
      · exact absurd cm h
    · rw [if_neg cm, if_neg cm]
      exact ⟨([], 0), rfl, rfl, by omega, by simp, ⟨fun _ => .inr cm, fun _ => rfl⟩⟩

theorem same_l0 (l : List S26) (hl : l.length ≤ 1000000) (d : Nat) : ∀ (i k : Nat), i + d = l.length → d + 1 ≤ k → patchbayref4_SameCapture.l0 k l l (l.length : Int) i = some true := by
  induction d with
  | zero =>
    intro i k hi hk
    obtain ⟨k, rfl⟩ : ∃ m, k = m + 1 := ⟨k - 1, by omega⟩
    simp only [patchbayref4_SameCapture.l0]
    rw [if_neg (by omega)]
  | succ d ih =>
    intro i k hi hk
    obtain ⟨k, rfl⟩ : ∃ m, k = m + 1 := ⟨k - 1, by omega⟩
    simp only [patchbayref4_SameCapture.l0]
    rw [if_pos (by omega), if_pos (by omega), if_pos (by omega), if_pos (by omega), wrap_succ i (by omega), if_neg (by simp)]
    exact ih (i + 1) k (by omega) (by omega)
theorem same_f (l : List S26) (hl : l.length ≤ 1000000) (k : Nat) (hk : l.length + 1 ≤ k) : patchbayref4_SameCapture.f k l l = some true := by
  unfold patchbayref4_SameCapture.f
  rw [if_pos rfl]
  exact same_l0 l hl l.length 0 k (by omega) (by omega)

theorem recover_one (k : Nat) (hk : 20 ≤ k) : pcap_Recover.f (k + 2) (⟨#[80, 66, 67, 49]⟩ : ByteArray) = some ([], 4) := by
  have hs : (⟨#[80, 66, 67, 49]⟩ : ByteArray).size = 4 := rfl
  rw [recover_f (k + 1), if_neg (by rw [hs]; decide), if_pos (by rw [ByteArray.toList_eq]; rfl)]
  exact (recover_at (⟨#[80, 66, 67, 49]⟩ : ByteArray) 4 0 k [] (by rw [hs]; decide) (by decide) (by decide) hk (by decide) (by rw [hs]; decide)).2 (fun h => absurd h.1 (by rw [hs]; decide))

theorem PcapRecovers (a0 : ByteArray) (h : a0.size ≤ 140737488351232) : ∃ k, patchbaylaw4_PcapRecovers.f k a0 = some true := by
  refine ⟨60000, ?_⟩
  unfold patchbaylaw4_PcapRecovers.f
  have hone : pcap_Recover.f 60000 (⟨#[80, 66, 67, 49]⟩ : ByteArray) = some ([], 4) := recover_one 59998 (by omega)
  rw [hone]
  simp only [Option.bind_some, if_true]
  have hm0 : 0 ≤ mn (a0.size : Int) 3000 := by unfold mn; split <;> omega
  have hm1 : mn (a0.size : Int) 3000 ≤ (a0.size : Int) := by unfold mn; split <;> omega
  have hm2 : mn (a0.size : Int) 3000 ≤ 3000 := by unfold mn; split <;> omega
  rw [if_pos hm0, if_pos hm1]
  have hs : (a0.extract 0 (mn (a0.size : Int) 3000).toNat).size ≤ 3000 := by rw [ByteArray.size_extract]; omega
  generalize a0.extract 0 (mn (a0.size : Int) 3000).toNat = s at hs ⊢
  obtain ⟨r, h1, h2, _, h4, _⟩ := fronts s (by omega) 60000 (by omega)
  rw [h1, h2]
  simp only [Option.bind_some, if_true]
  rw [same_f r.1 (by omega) 60000 (by omega)]
  rfl

end Go.Proofs.Ytkolbflmihfokaa.Pure
