/- append(out[:k:k], append([]T{r}, out[k:]...)...): the element r put in at place k, in a row of the call's own. -/
import Derived.Test.YtbcocpaeehgmnaaDoorZonex0
import Derived.Test.YtbcocpaeehgmnaaDoorUWords
import Derived.ArgAppend
namespace Go.Proofs.YtbcocpaeehgmnaaDoor.Zone
open Go.RowKit Go.Proofs.YtbcocpaeehgmnaaDoorW.PrintWords Go.Proofs.YtbcocpaeehgmnaaDoorW.PrintLast

def insert_68.f (l : List (S68)) (k : Int) (a : ByteArray) (x : Int) (y : Int) (b_ : ByteArray) : Option (List (S68)) := if 0 ≤ k ∧ k ≤ (l.length : Int) ∧ (l.length + 1) * 48 ≤ 140737488355328 then some (l.take k.toNat ++ (⟨a, x, y, b_⟩ : S68) :: l.drop k.toNat) else none

theorem insert_68.spec {l r : List (S68)} {k : Int} {a : ByteArray} {x y : Int} {b_ : ByteArray} (h : insert_68.f l k a x y b_ = some r) : 0 ≤ k ∧ k ≤ (l.length : Int) ∧ (l.length + 1) * 48 ≤ 140737488355328 ∧ r = l.take k.toNat ++ ([(⟨a, x, y, b_⟩ : S68)] ++ l.drop k.toNat) := by
  unfold insert_68.f at h
  split at h
  · rename_i hh
    injection h with h
    exact ⟨hh.1, hh.2.1, hh.2.2, by rw [← h]; rfl⟩
  · cases h
theorem cut_cap {P : Program} (t e : TypeId) (kh km : IntKind) {i : TypeInfo} (ht : P.underlying t = some (.slice e)) (hi : P.info? e = some i) (A : Option Addr) (n c : Nat) (j : Int) (h0 : 0 ≤ j) (hm : j ≤ n) (hc : n ≤ c) :
    ∀ W : World, (Instr.slice t (.slice A n c) none (some (.int kh j)) (some (.int km j))).run P W = .ok (.slice A j.toNat j.toNat) W := by
  intro W
  have hel : P.elem t = e := by simp [Program.elem, ht]
  have hu : P.underlying t = some (.slice (P.elem t)) := by rw [hel]; exact ht
  have ha : (A.map fun x => x.add 0) = A := by cases A <;> simp [Addr.add]
  rw [run_slice_hm W t A n c hu kh km j j h0 (by omega) (by omega), hel]
  simp [sizeOf, typeInfo, hi, sliced, Result.andThen, ha]

section
variable {P : Program} {ops : Array Oper} {o : Oper} {a : Act} {Q : Exit → Act → World → Prop} {Kc : Act → World → Prop} {α : Type}
theorem append_full_step (d : Kd α) {W : World} (hw : Region.wanted o (yielded ops a.tmps) = true) (s x : Operand) (t e : TypeId) (z : Value) (bytes : Nat)
    (ho : o.op = .call { callee := .builtin .append, args := #[s, x], argTypes := #[t, t] })
    (ht : P.underlying t = some (.slice e)) (hinfo : (P.info? e).map (fun i => (i.zero, i.size, i.bytes)) = some (some z, d.sz, bytes)) (hz : z.cells.size = d.sz) (hs0 : 0 < d.sz) (hb0 : 0 < bytes)
    (A B : Option Addr) (n m c : Nat) (xs ys : List α) (hs : a.eval s = .slice A n n) (hx : a.eval x = .slice B m c) (HA : d.C W A n xs) (HB : d.C W B m ys) (hm : 0 < m)
    (hKM : ∀ x cs, d.K W x cs → d.M W W.heap.size (fun _ => False) x cs) (hl : (n + m) * bytes ≤ 140737488355328)
    (h : ∀ v1 w1, d.R e w1 W.heap.size (fun _ => True) v1 (xs ++ ys) → Below W.heap.size W w1 → Kc (a.put o.dst v1) w1) :
    if Region.wanted o (yielded ops a.tmps) = true then Oper.wp P o a W Kc Q else Kc (a.put o.dst undef) W := by
  have hn : xs.length = n := HA.1
  have hml : ys.length = m := HB.1
  rcases A with _ | ad
  · have h0 : n = 0 := by
      rcases Nat.eq_zero_or_pos n with h0 | h0
      · exact h0
      · obtain ⟨ad, h, _⟩ := HA.2.2 h0
        cases h
    subst h0
    obtain rfl : xs = [] := List.eq_nil_of_length_eq_zero hn
    refine Kd.R_append_rows_step d (w0 := W) W.heap.size hw s x t e z bytes ho ht hinfo hz hs0 hb0 _ [] ys B m c (fun _ => True) (fun _ => False) hs hx (Kd.R_nil _ _ _ _ _) HB hKM (fun _ h => h.elim) (fun _ _ => trivial) (Below.refl _ _) (Nat.le_refl _) (by simpa using hl) (fun v1 w1 h1 h2 _ _ => h v1 w1 h1 h2)
  · obtain ⟨bd, hB, _⟩ := HB.2.2 hm
    subst hB
    obtain ⟨i0, hi, hzz⟩ := Option.map_eq_some_iff.1 hinfo
    simp only [Prod.mk.injEq] at hzz
    obtain ⟨hz0, hz1, hz2⟩ := hzz
    obtain ⟨olds, hor, hoc⟩ := ReadsRow.inner_ HA
    obtain ⟨news, hnr, hnc⟩ := ReadsRow.inner_ HB
    have hlen : n + m ≤ 140737488355328 := Nat.le_trans (Nat.le_mul_of_pos_right _ hb0) hl
    obtain ⟨v1, w1, hrun, hown, hg⟩ := run_append_arg_grows (P := P) W t o.type e i0 z d.sz bytes ht hi hz0 hz1 hz2 hz hs0 ad n n olds (by rw [hor.1, hn]) hoc bd m c news (by rw [hnr.1, hml]) hnc (by omega) (by simp only [maxLen]; omega) hl
    have mv : ∀ {q : α} {cs : List Value}, d.K W q cs → d.M w1 W.heap.size (fun k => True ∧ some k ≠ v1.ownBlock) q cs := fun hq => d.M_mono (fun _ h => h.elim) (d.M_move (fun _ h => h.elim) (hKM _ _ hq))
    refine event_step hw (v := v1) (w1 := w1) ?_ (h v1 w1 ⟨fun _ _ => trivial, olds ++ news, by rw [List.length_append, hn, hml]; exact hown, Kd.reps_append (hor.imp_ (fun _ _ hq => mv hq)) (hnr.imp_ (fun _ _ hq => mv hq))⟩ ⟨hg.os, hg.tape, hg.output, hg.size, fun k hk => hg.block k hk (by simp)⟩)
    unfold execOp
    simp only [ho, resolve, invoke, builtin, Sem.run_bind, Sem.run_pure, Result.andThen_ok, List.map_toArray, List.map_cons, List.map_nil, hs, hx, hrun]
end
end Go.Proofs.YtbcocpaeehgmnaaDoor.Zone
