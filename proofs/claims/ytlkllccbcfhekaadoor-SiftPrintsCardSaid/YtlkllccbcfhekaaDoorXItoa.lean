/- What strconv.Itoa and strings.Join do, by the shelf's contracts, in the form of the printed texts. -/
import Derived.Test.YtlkllccbcfhekaaDoorShelfX
import Derived.Lib.AppendIntMem
import Derived.Lib.QuietBelow

import Derived.Test.YtlkllccbcfhekaaDoorUWords
namespace Go.Proofs.YtlkllccbcfhekaaDoor.Sift
open Go.RowKit Go.Lib Go.Proofs.YtlkllccbcfhekaaDoorW.PrintWords

/-- The table of strconv reads as it was laid. -/
def Pows (w : World) : Prop := Lib.TabIs Tryd.prog w "internal/strconv.uint64pow10" .u64 Lib.pow10Tab
theorem Pows.below {w w' : World} (h : Pows w) (hb : Below w.heap.size w w') : Pows w' := Lib.tabBelow_of_tabIs h w' hb
/-- strconv.Itoa. -/
def strconv_Itoa.f (a0 : Int) : Option ByteArray := if -9223372036854775808 ≤ a0 ∧ a0 ≤ 9223372036854775807 then some ⟨(Lib.itoa a0).toArray⟩ else none
theorem strconv_Itoa.calls (a0 : Int) (r : ByteArray) (w : World) (hP : Pows w) (h : strconv_Itoa.f a0 = some r) :
    Calls Tryd.prog 36 #[.int .i64 a0] w fun e w' => e = .returned (.string r) ∧ Below w.heap.size w w' := by
  unfold strconv_Itoa.f at h
  split at h
  · rename_i hc
    cases Option.some.inj h
    refine (Tryd.strconv_Itoa a0 hc.1 hc.2 w hP).mono ?_
    rintro e w' ⟨h1, k, os, rfl⟩
    refine ⟨h1, ?_⟩
    exact below_regrown w (w.drawn + k) os
  · cases h

/-- strings.Join. -/
def strings_Join.f (l0 : List ByteArray) (a1 : ByteArray) : Option ByteArray :=
  if l0.length ≤ 140737488355328 ∧ (Lib.join (l0.map (·.data.toList)) a1.data.toList).length ≤ 140737488355328 then some ⟨(Lib.join (l0.map (·.data.toList)) a1.data.toList).toArray⟩ else none
theorem strings_Join.calls (A0 : Option Addr) (c0 : Nat) (l0 : List ByteArray) (a1 : ByteArray) (r : ByteArray) (w : World) (hr0 : Kd.C Kd.string w A0 l0.length l0) (hc0 : l0.length ≤ c0) (h : strings_Join.f l0 a1 = some r) :
    Calls Tryd.prog 70 #[.slice A0 l0.length c0, .string a1] w fun e w' => e = .returned (.string r) ∧ Below w.heap.size w w' := by
  unfold strings_Join.f at h
  split at h
  · rename_i hc
    obtain ⟨hN, hlen⟩ := hc
    cases Option.some.inj h
    by_cases h0 : l0.length = 0
    · obtain rfl := List.eq_nil_of_length_eq_zero h0
      refine (Tryd.strings_Join_none A0 c0 a1 w).mono ?_
      rintro e w' ⟨h1, rfl⟩
      exact ⟨h1, Below.refl _ _⟩
    · obtain ⟨ad, rfl, hz⟩ := Kd.at_string hr0 0 (Int.le_refl 0) (by omega)
      have hz' : w.cell? ad = some (.string (rdOf ByteArray.empty l0 0)) := hz
      have hsp : ad = ⟨ad.block, ad.off, none⟩ := by
        obtain ⟨b, o, s⟩ := ad
        cases s with
        | none => rfl
        | some x =>
          simp only [World.cell?] at hz'
          split at hz' <;> simp at hz'
      have hb := World.block_lt_of_cell? w _ hz'
      rw [hsp]
      refine Tryd.strings_Join ad.block ad.off c0 l0 a1 w (fun j x hj => ?_) hb hN hc0 hlen
      have hjl : j < l0.length := (List.getElem?_eq_some_iff.1 hj).1
      obtain ⟨ad2, e2, hcell⟩ := Kd.at_string hr0 (j : Int) (by omega) (by omega)
      cases e2
      have hx : rdOf ByteArray.empty l0 (j : Int) = x := by
        unfold rdOf
        rw [Int.toNat_natCast, List.getD_eq_getElem?_getD, hj]
        rfl
      rw [hx, Int.toNat_natCast] at hcell
      rw [← hcell]
      congr 1
      unfold Addr.add
      by_cases hj0 : j = 0
      · rw [if_pos hj0, hj0]; exact hsp.symm
      · rw [if_neg hj0]
  · cases h

end Go.Proofs.YtlkllccbcfhekaaDoor.Sift
