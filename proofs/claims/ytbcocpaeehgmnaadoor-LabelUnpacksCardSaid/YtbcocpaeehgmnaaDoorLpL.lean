/- What strings.Split, strings.Trim, strings.Join and label.isLabel's literal do, by the shelf's contracts, in the form of the printed texts. -/
import Derived.Test.YtbcocpaeehgmnaaDoorRunes
import Derived.Test.YtbcocpaeehgmnaaDoorShelfX
import Derived.Shelf.Strings.SlTrimAscii
import Derived.Test.YtbcocpaeehgmnaaDoorWWords
namespace Go.Proofs.YtbcocpaeehgmnaaDoor.Lp
open Go.RowKit Go.Lib Go.Proofs.YtbcocpaeehgmnaaDoor.Runes Go.Proofs.YtbcocpaeehgmnaaDoorW.PrintWords

/-- The literal's predicate: no lower letter, digit, '-', '_'. -/
def labelBad : Nat → Bool := fun r => !((decide (97 ≤ r) && decide (r ≤ 122)) || (decide (48 ≤ r) && decide (r ≤ 57)) || decide (r = 45) || decide (r = 95))

set_option maxHeartbeats 1000000 in
theorem lit73 (w : World) : PredAt Tryd.prog 73 #[] encR labelBad w := fun W r _ => by
  unfold FnGives labelBad
  by_cases h1 : 97 ≤ r <;> by_cases h2 : r ≤ 122 <;> by_cases h3 : 48 ≤ r <;> by_cases h4 : r ≤ 57 <;> by_cases h5 : r = 45 <;> by_cases h6 : r = 95
  all_goals first | (exfalso; omega) | skip
  all_goals
    have z1 : (97 : Int) ≤ (r : Int) ↔ 97 ≤ r := by omega
    have z2 : (r : Int) ≤ 122 ↔ r ≤ 122 := by omega
    have z3 : (48 : Int) ≤ (r : Int) ↔ 48 ≤ r := by omega
    have z4 : (r : Int) ≤ 57 ↔ r ≤ 57 := by omega
    have z5 : (r : Int) = 45 ↔ r = 45 := by omega
    have z6 : (r : Int) = 95 ↔ r = 95 := by omega
    go_enter Tryd.func73, Tryd.ntmps73
    go_wp2
    all_goals first | (exfalso; omega) | (go_ret; exact ⟨by simp [h1, h2, h3, h4, h5, h6] <;> omega, 0, rfl⟩)

def label_isLabel_1.f (a0 : ByteArray) : Option Bool := some (strAny labelBad a0)
theorem label_isLabel_1.calls (a0 : ByteArray) (r : Bool) (w : World) (h : label_isLabel_1.f a0 = some r) :
    Calls Tryd.prog 72 #[.string a0, .func (.func 73) #[] #[]] w fun e w' => e = .returned (.bool r) ∧ Below w.heap.size w w' := by
  cases Option.some.inj h
  exact Tryd.strings_ContainsFunc 73 #[] (enters_of Tryd.func73 (by kernel_rfl) rfl) labelBad a0 w (lit73 w)

/-- strings.Trim at a set of ASCII bytes. -/
def strings_Trim.f (a0 a1 : ByteArray) : Option ByteArray :=
  if a0.size ≤ 9223372036854775807 ∧ a1.size < 4294967281 ∧ a1.data.toList.all (fun b => decide (b.toNat < 128)) = true then some ⟨(Lib.trimS a0.data.toList a1.data.toList).toArray⟩ else none
theorem strings_Trim.calls (a0 a1 : ByteArray) (r : ByteArray) (w : World) (h : strings_Trim.f a0 a1 = some r) :
    Calls Tryd.prog 71 #[.string a0, .string a1] w fun e w' => e = .returned (.string r) ∧ Below w.heap.size w w' := by
  unfold strings_Trim.f at h
  split at h
  · rename_i hc
    cases Option.some.inj h
    exact Any.strings_Trim_laid Tryd.lays160 (by kernel_rfl) a0 a1 w hc.1 hc.2.1 (ascii_of_all hc.2.2)
  · cases h

/-- strings.Split at a separator of one byte: nothing of the world is asked. -/
def strings_Split.f (a0 a1 : ByteArray) : Option (List ByteArray) :=
  if a0.size < 4294967281 ∧ a1.size = 1 then some (Lib.splitB a1 0 (Lib.countB a0 a1) a0) else none

theorem row_new {w : World} {T : TypeId} (xs : List ByteArray) (hl : xs.length ≤ maxLen) :
    Kd.R Kd.string T (w.alloc (.cells (xs.map Value.string).toArray T)) w.heap.size (fun _ => True) (.slice (some ⟨w.heap.size, 0, none⟩) xs.length xs.length) xs := by
  refine Kd.R_of_own ⟨?_, .inr ⟨w.heap.size, xs.length, (xs.map Value.string).toArray, rfl, Nat.le_refl _, heap_alloc_new _ _, Nat.le_refl _, hl, ?_, ?_⟩⟩ (fun _ _ => trivial)
  · simp [encs]
  · simp
  · simp [encs]
    exact List.take_of_length_le (by simp)

theorem strings_genSplit_one (s : ByteArray) (c : UInt8) (n : Int) (N : Nat) (w : World) (hs : s.size < 4294967281) (hn0 : n ≠ 0) (hn63 : n ≤ 9223372036854775807) (hN : (N : Int) = min (if n < 0 then (Lib.countB s ⟨#[c]⟩ : Int) + 1 else n) ((s.size : Int) + 1)) :
    Calls Tryd.prog 81 #[.string s, .string ⟨#[c]⟩, .int .i64 0, .int .i64 n] w fun e w' =>
      e = .returned (.slice (some ⟨w.heap.size, 0, none⟩) (Lib.splitB ⟨#[c]⟩ 0 (N - 1) s).length N) ∧ w' = w.alloc (.cells (Lib.cellsOf (Lib.splitB ⟨#[c]⟩ 0 (N - 1) s) N) 9) :=
  Any.strings_genSplit_core Tryd.lays221 (by kernel_rfl) s ⟨#[c]⟩ 0 n N w hs (Nat.le_refl 1) (Nat.zero_le _)
    (fun x _ _ => (Tryd.strings_Index_one x c _).mono fun e w' ⟨h1, h2⟩ => ⟨by rw [h1]; exact congrArg (fun z => Ending.returned (Value.int .i64 z)) (Lib.index_one x.data.toList c).symm, h2⟩)
    ((Tryd.strings_Count_one s c w).mono fun e w' ⟨h1, h2⟩ => ⟨by rw [h1]; exact congrArg (fun z : Nat => Ending.returned (Value.int .i64 (z : Int))) (Lib.count_one c s.data.toList).symm, h2⟩)
    hn0 hn63 hN

set_option maxHeartbeats 1000000 in
theorem strings_Split.calls (a0 a1 : ByteArray) (r : List ByteArray) (w : World) (h : strings_Split.f a0 a1 = some r) :
    Calls Tryd.prog 69 #[.string a0, .string a1] w fun e w' => ∃ v0_ : Value, e = .returned (v0_) ∧ Kd.R Kd.string 9 w' w.heap.size (fun _ => True) v0_ r ∧ Below w.heap.size w w' := by
  unfold strings_Split.f at h
  split at h
  · rename_i hc
    obtain ⟨hs, h1⟩ := hc
    cases Option.some.inj h
    clear h
    obtain ⟨c, rfl⟩ := Lib.one_byte a1 h1
    clear h1
    have hle := Lib.countB_le ⟨#[c]⟩ (Nat.le_refl 1) a0.size a0 (Nat.le_refl _)
    have hlen := Lib.splitB_all ⟨#[c]⟩ (Nat.le_refl 1) 0 _ a0 rfl
    have k := strings_genSplit_one a0 c (-1) (Lib.countB a0 ⟨#[c]⟩ + 1) w hs (by decide) (by decide) (by rw [if_pos (by decide)]; omega)
    rw [Nat.add_sub_cancel, hlen] at k
    have e2 : Lib.cellsOf (Lib.splitB ⟨#[c]⟩ 0 (Lib.countB a0 ⟨#[c]⟩) a0) (Lib.countB a0 ⟨#[c]⟩ + 1) = ((Lib.splitB ⟨#[c]⟩ 0 (Lib.countB a0 ⟨#[c]⟩) a0).map Value.string).toArray := by rw [← hlen]; exact Lib.cellsOf_full _
    rw [e2] at k
    rw [← hlen] at k
    have hmax : (Lib.splitB ⟨#[c]⟩ 0 (Lib.countB a0 ⟨#[c]⟩) a0).length ≤ maxLen := by rw [hlen]; simp only [maxLen]; omega
    clear hlen e2 hle
    generalize Lib.splitB ⟨#[c]⟩ 0 (Lib.countB a0 ⟨#[c]⟩) a0 = xs at k hmax ⊢
    have hR := row_new (w := w) (T := 9) xs hmax
    have hB : Below w.heap.size w (w.alloc (.cells (xs.map Value.string).toArray 9)) := (Below.refl _ w).alloc (Nat.le_refl _) _
    generalize w.alloc (.cells (xs.map Value.string).toArray 9) = w1 at k hR hB
    clear hmax
    have HR := Aside0.mk hR
    have HB := Aside0.mk hB
    clear hR hB
    go_enter Tryd.func69, Tryd.ntmps69
    go_wp2_with (go_at_call 81; refine k.mono ?_; rintro e w' ⟨rfl, hw⟩; rw [hw]; clear hw)
    go_ret
    exact ⟨_, rfl, HR.out, HB.out⟩
  · cases h

/-- strings.Join. -/
def strings_Join.f (l0 : List ByteArray) (a1 : ByteArray) : Option ByteArray :=
  if l0.length ≤ 140737488355328 ∧ (Lib.join (l0.map (·.data.toList)) a1.data.toList).length ≤ 140737488355328 then some ⟨(Lib.join (l0.map (·.data.toList)) a1.data.toList).toArray⟩ else none
theorem strings_Join.calls (A0 : Option Addr) (c0 : Nat) (l0 : List ByteArray) (a1 : ByteArray) (r : ByteArray) (w : World) (hr0 : Kd.C Kd.string w A0 l0.length l0) (hc0 : l0.length ≤ c0) (h : strings_Join.f l0 a1 = some r) :
    Calls Tryd.prog 75 #[.slice A0 l0.length c0, .string a1] w fun e w' => e = .returned (.string r) ∧ Below w.heap.size w w' := by
  unfold strings_Join.f at h
  split at h
  · rename_i hc
    obtain ⟨hN, hlen⟩ := hc
    cases Option.some.inj h
    by_cases h0 : l0.length = 0
    · obtain rfl := List.eq_nil_of_length_eq_zero h0
      refine (Tryd.strings_Join_none A0 c0 a1 w).mono ?_
      rintro e w' ⟨h1, rfl⟩
      exact ⟨h1, Below.refl _ _⟩
    · obtain ⟨ad, rfl, hz⟩ := Kd.at_string hr0 0 (Int.le_refl 0) (by omega)
      have hz' : w.cell? ad = some (.string (rdOf ByteArray.empty l0 0)) := hz
      have hsp : ad = ⟨ad.block, ad.off, none⟩ := by
        obtain ⟨b, o, s⟩ := ad
        cases s with
        | none => rfl
        | some x =>
          simp only [World.cell?] at hz'
          split at hz' <;> simp at hz'
      have hb := World.block_lt_of_cell? w _ hz'
      rw [hsp]
      refine Tryd.strings_Join ad.block ad.off c0 l0 a1 w (fun j x hj => ?_) hb hN hc0 hlen
      have hjl : j < l0.length := (List.getElem?_eq_some_iff.1 hj).1
      obtain ⟨ad2, e2, hcell⟩ := Kd.at_string hr0 (j : Int) (by omega) (by omega)
      cases e2
      have hx : rdOf ByteArray.empty l0 (j : Int) = x := by
        unfold rdOf
        rw [Int.toNat_natCast, List.getD_eq_getElem?_getD, hj]
        rfl
      rw [hx, Int.toNat_natCast] at hcell
      rw [← hcell]
      congr 1
      unfold Addr.add
      by_cases hj0 : j = 0
      · rw [if_pos hj0, hj0]; exact hsp.symm
      · rw [if_neg hj0]
  · cases h

end Go.Proofs.YtbcocpaeehgmnaaDoor.Lp
