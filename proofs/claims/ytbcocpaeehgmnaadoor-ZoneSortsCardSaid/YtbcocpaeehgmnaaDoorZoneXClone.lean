/- What slices.Clone answers at elements of plain cells: the same elements, in a row of the call's own. -/
import Derived.Test.YtbcocpaeehgmnaaDoorZonex0
import Derived.Test.YtbcocpaeehgmnaaDoorUWords
import Derived.Lib.SliceRun
namespace Go.Proofs.YtbcocpaeehgmnaaDoor.Zone
open Go.RowKit Go.Proofs.YtbcocpaeehgmnaaDoorW.PrintWords Go.Proofs.YtbcocpaeehgmnaaDoorW.PrintLast

theorem api_ZoneRecord_62.info : (Tryd.prog.info? 68).map (fun i => (i.zero, i.size, i.bytes)) = some (some (.agg #[.string ⟨#[]⟩, .int .i64 0, .int .i64 0, .string ⟨#[]⟩]), 4, 48) := by kernel_rfl
def api_ZoneRecord_62.f (l : List (S68)) : Option (List (S68)) := if l.length * 48 ≤ 140737488355328 then some l else none
set_option maxHeartbeats 1000000 in
set_option maxRecDepth 100000 in
theorem api_ZoneRecord_62.calls (A0 : Option Addr) (c0 : Nat) (l0 : List (S68)) (r : List (S68)) (w : World) (hr0 : Kd.C k68 w A0 l0.length l0) (hc0 : l0.length ≤ c0) (h : api_ZoneRecord_62.f l0 = some r) :
    Calls Tryd.prog 62 #[.slice A0 l0.length c0] w fun e w' => ∃ v0_ : Value, e = .returned (v0_) ∧ Kd.R k68 68 w' w.heap.size (fun _ => True) v0_ r ∧ Below w.heap.size w w' := by
  unfold api_ZoneRecord_62.f at h
  split at h
  · rename_i hb
    injection h with h
    subst h
    have hnil := fun (w : World) (n' c' : Nat) => Lib.run_eql_slice_nil (P := Tryd.prog) w 50 68 A0 l0.length c0 n' c' Tryd.underlying50
    have HB := Aside0.mk hb
    have HC := Aside0.mk hr0
    clear hb hr0
    cases A0 with
    | none =>
      have h0 : l0 = [] := by
        rcases Nat.eq_zero_or_pos l0.length with h0 | h0
        · exact List.length_eq_zero_iff.1 h0
        · obtain ⟨ad, h, _⟩ := HC.out.2.2 h0
          cases h
      subst h0
      simp only [Option.isNone_none, List.length_nil] at hnil
      go_enter Tryd.func62, Tryd.ntmps62
      go_wp2
      go_ret
      exact ⟨_, rfl, by exact Kd.R_nil _ _ _ _ _, Below.refl _ _⟩
    | some ad =>
      simp only [Option.isNone_some] at hnil
      go_enter Tryd.func62, Tryd.ntmps62
      have hR := Aside0.mk (show Kd.R k68 68 (w.alloc (.cells #[] 68)) w.heap.size (fun _ => True) (.slice (some ⟨w.heap.size, 0, none⟩) 0 0) ([] : List (S68)) from ⟨fun _ _ => trivial, [], ⟨rfl, .inr ⟨w.heap.size, 0, #[], rfl, Nat.le_refl _, heap_alloc_new w _, Nat.le_refl _, Nat.zero_le _, by simp, rfl⟩⟩, Reps.none _ _⟩)
      have hB1 := Aside0.mk ((Below.refl w.heap.size w).alloc (Nat.le_refl _) (.cells #[] 68))
      have hC1 := Aside0.mk (Kd.C_alloc HC.out (.cells #[] 68))
      go_wp2_with (at_builtin; refine Kd.R_append_rows k68 (w0 := w) w.heap.size rfl (.tmp 5) (.tmp 6) 50 68 (.agg #[.string ⟨#[]⟩, .int .i64 0, .int .i64 0, .string ⟨#[]⟩]) 48 rfl Tryd.underlying50 api_ZoneRecord_62.info rfl (by decide) (by omega) _ ([] : List (S68)) l0 (some ad) l0.length c0 (fun _ => True) (fun _ => False) rfl rfl hR.out hC1.out (fun _ _ h => h) (fun _ h => h.elim) (fun _ _ => trivial) hB1.out hB1.out.size ?aL ?_; (case aL => have := HB.out; simp; omega); intro v1 w2 ho hb hg hat)
      go_ret
      exact ⟨_, rfl, by simpa using ho, hb⟩
  · cases h
end Go.Proofs.YtbcocpaeehgmnaaDoor.Zone
