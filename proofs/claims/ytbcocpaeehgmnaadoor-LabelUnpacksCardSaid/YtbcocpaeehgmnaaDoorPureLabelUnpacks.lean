/- The plain law of LabelUnpacks. -/
import Derived.Test.YtbcocpaeehgmnaaDoorPureLuK
namespace Go.Proofs.YtbcocpaeehgmnaaDoor.Pure
open Go.RowKit Go.Proofs.YtbcocpaeehgmnaaDoor.Lp Go.Proofs.YtbcocpaeehgmnaaDoor.Runes Go.Proofs.YtbcocpaeehgmnaaDoorW.PrintWords Go.Proofs.YtbcocpaeehgmnaaDoorW.PrintLast

theorem same_runs (l : List ByteArray) (hl : l.length ≤ 1000) : ∀ (d i k : Nat), i + d = l.length → d + 1 ≤ k → patchbayref4_SameTexts.l0 k l l (l.length : Int) (i : Int) = some true := by
  intro d
  induction d with
  | zero =>
    intro i k hi hk
    obtain ⟨k, rfl⟩ : ∃ m, k = m + 1 := ⟨k - 1, by omega⟩
    rw [patchbayref4_SameTexts.l0, if_neg (by omega)]
  | succ d ih =>
    intro i k hi hk
    obtain ⟨k, rfl⟩ : ∃ m, k = m + 1 := ⟨k - 1, by omega⟩
    have hw : wrap64 ((i : Int) + 1) = ((i + 1 : Nat) : Int) := by unfold wrap64; omega
    have c : (i : Int) < (l.length : Int) := by omega
    rw [patchbayref4_SameTexts.l0, if_pos c, if_pos (by omega), if_pos c, if_pos c, if_pos rfl, hw, ih (i + 1) k (by omega) (by omega)]
theorem same_at (l : List ByteArray) (hl : l.length ≤ 1000) (k : Nat) (hk : l.length + 1 ≤ k) : patchbayref4_SameTexts.f k l l = some true := by
  unfold patchbayref4_SameTexts.f
  rw [if_pos rfl]
  exact same_runs l hl l.length 0 k (by omega) hk

theorem same_ev (l : List ByteArray) (hl : l.length ≤ 1000) : Ev (fun k => patchbayref4_SameTexts.f k l l) true := ⟨1001, fun k hk => same_at l hl k (by omega)⟩
theorem Unpack_is (L : List UInt8) (hL : L.length ≤ 600) (k : Nat) : label_Unpack.f k (mk L) = label_Unpack.l0 k (mk L) [] 0 := by
  unfold label_Unpack.f
  rw [if_neg (by rw [mk_size]; omega)]
/-- The program and the reference, at any string of up to 600 bytes. -/
theorem both (L : List UInt8) (hL : L.length ≤ 600) : ∃ a b, Ev (fun k => label_Unpack.f k (mk L)) a ∧ Ev (fun k => patchbayref4_UnpackNames.f k (mk L)) b ∧ ((b.2 = true ∧ a = (b.1, 0) ∧ b.1.length ≤ 256) ∨ (b.2 = false ∧ a = ([], 3))) := by
  obtain ⟨a, ha, ha2⟩ := unpack_total hL L.length 0 [] (by omega) (by simp)
  obtain ⟨b, hb, hb2⟩ := names_total hL L.length 0 [] (by omega) (by simp) (by omega)
  refine ⟨a, b, Ev.congr (fun k => Unpack_is L hL k) ha, hb, ?_⟩
  rcases hb2 with hb2 | ⟨hb2, h0, hl, hE⟩
  · right
    refine ⟨hb2, ?_⟩
    rcases ha2 with ha2 | ⟨_, hp⟩
    · exact ha2
    · obtain ⟨p1, p2, p3, p4⟩ := Pack_says (by rw [mk_size]; exact hL) hp
      have := Ev.one (names_ok hL a.1 p1 p2 p4) hb
      rw [← this] at hb2
      cases hb2
  · left
    exact ⟨hb2, (Ev.one (unpack_ok hL b.1 hl h0 hE) ha).symm, hl⟩
theorem LabelUnpacksE (a0 : ByteArray) : Ev (fun k => patchbaylaw4_LabelUnpacks.f k a0) true := by
  unfold patchbaylaw4_LabelUnpacks.f
  have hd : Ev (fun k => label_Unpack.f k (⟨#[0]⟩ : ByteArray)) ([(⟨#[46]⟩ : ByteArray)], 0) := by
    have e : (labs (⟨#[46]⟩ : ByteArray)) = ([], 0) := by decide +kernel
    have e2 : firstCode [(⟨#[46]⟩ : ByteArray)] = 0 := by rw [firstCode, e]; rfl
    have e3 : (packP [(⟨#[46]⟩ : ByteArray)] [] []).1 = [0] := by rw [packP, e]; rfl
    have h := unpack_ok (L := [0]) (by simp) [(⟨#[46]⟩ : ByteArray)] (by simp) e2 (by rw [e3]; rfl)
    exact Ev.congr (fun k => Unpack_is [0] (by simp) k) h
  refine Ev.bind hd (Ev.bind (same_ev [(⟨#[46]⟩ : ByteArray)] (by simp)) ?_)
  have hm0 : (0 : Int) ≤ mn (a0.size : Int) 600 := by unfold mn; split <;> omega
  have hm1 : mn (a0.size : Int) 600 ≤ (a0.size : Int) := by unfold mn; split <;> omega
  have hm2 : mn (a0.size : Int) 600 ≤ 600 := by unfold mn; split <;> omega
  obtain ⟨L, hL⟩ : ∃ L, a0.extract 0 (mn (a0.size : Int) 600).toNat = mk L := ⟨_, (mk_of _).symm⟩
  have hl : L.length ≤ 600 := by
    have h := congrArg ByteArray.size hL
    rw [mk_size, ByteArray.size_extract] at h
    omega
  obtain ⟨a, b, ha, hb, h⟩ := both L hl
  refine Ev.congr (fun k => by rw [if_pos rfl, if_pos hm0, if_pos hm1, hL]) (Ev.bind ha (Ev.bind hb ?_))
  rcases h with ⟨h1, h2, h3⟩ | ⟨h1, h2⟩
  · rw [h2]
    refine Ev.congr (fun k => by rw [if_pos h1, if_pos (show ((b.1, (0 : Int)) : List ByteArray × Int).2 = 0 from rfl)]) (Ev.bind (same_ev b.1 (by omega)) (Ev.now true))
  · rw [h2]
    refine Ev.congr (fun k => ?_) (Ev.now true)
    rw [if_neg (by rw [h1]; simp), if_pos (show (([], (3 : Int)) : List ByteArray × Int).2 = 3 from rfl)]
    rfl
theorem LabelUnpacks (a0 : ByteArray) (_ : a0.size ≤ 140737488351232) : ∃ k, patchbaylaw4_LabelUnpacks.f k a0 = some true := by
  obtain ⟨K, hK⟩ := LabelUnpacksE a0
  exact ⟨K, hK K (Nat.le_refl _)⟩
end Go.Proofs.YtbcocpaeehgmnaaDoor.Pure
