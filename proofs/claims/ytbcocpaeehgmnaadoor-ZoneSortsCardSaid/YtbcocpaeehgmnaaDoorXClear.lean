/- clear(s[k:]) of a row of the call's own: the part ahead stays. -/
import Derived.Test.YtbcocpaeehgmnaaDoorUWords
import Derived.Lib.SliceRun
import Derived.Lib.LazyBuf
namespace Go.Proofs.YtbcocpaeehgmnaaDoorW.Clear
open Go.RowKit Go.Proofs.YtbcocpaeehgmnaaDoorW.PrintWords Go.Proofs.YtbcocpaeehgmnaaDoorW.PrintLast Go.Proofs.YtbcocpaeehgmnaaDoorW.PrintMore

theorem below_setCells_w' {B g : Nat} (hg : B ≤ g) : ∀ (vs : List Value) (o : Nat) (w : World), Below B w (w.setCells g o vs)
  | [], _, w => Below.refl B w
  | v :: r, o, w => ((Below.refl B w).setCell (p := ⟨g, o, none⟩) hg v).trans (below_setCells_w' hg r (o + 1) _)
theorem zeroCells_one {cs : Array Value} (h : cs.toList.all (·.oneCell') = true) {n : Nat} {v : Value} (hv : v ∈ Builtin.zeroCells cs n) : v.oneCell' = true := by
  rw [List.all_eq_true] at h
  simp only [Builtin.zeroCells] at hv
  simp at hv
  obtain ⟨i, hi, rfl⟩ := hv
  have hlt : i % cs.size < cs.size := Nat.mod_lt _ (Nat.pos_of_ne_zero (fun h0 => by rw [h0] at hi; omega))
  refine h _ ?_
  rw [getElem!_pos cs _ hlt, Array.mem_toList_iff]
  exact Array.getElem_mem hlt
theorem R_front {α : Type} {d : Kd α} {e base g n co s : Nat} {W : World} {ok : Nat → Prop} {xs : List α} (h : d.R e W base ok (.slice (some ⟨g, 0, none⟩) n co) xs) (hs : s ≤ n) (seg : List Value) (hl : s * d.sz + seg.length ≤ n * d.sz) :
    d.R e (W.setCells g (s * d.sz) seg) base ok (.slice (some ⟨g, 0, none⟩) s co) (xs.take s) ∧ W.grownBy (W.setCells g (s * d.sz) seg) (some g) ∧ base ≤ g ∧ (∀ j, j < seg.length → (W.cell? ⟨g, s * d.sz + j, none⟩).isSome = true) ∧ (∀ j, j < seg.length → W.frozen? ⟨g, s * d.sz + j, none⟩ = false) := by
  have hn := (Kd.R_reads' h).1
  have ht := Kd.R_take (m := s) h (by omega)
  have hlen : (xs.take s).length = s := by rw [List.length_take]; omega
  obtain ⟨hok, inner, ho, hr⟩ := ht
  obtain ⟨ho1, ho2⟩ := ho
  rcases ho2 with ⟨hv, _⟩ | ⟨g', cap', cur, hv, hb, hh, hnc', hcm, hcs, htk⟩
  · cases hv
  injection hv with ha _ hc
  injection ha with ha
  injection ha with hg
  subst hg; subst hc
  have hnco : n ≤ co := (Kd.R_reads' h).2.1
  have hfit : s * d.sz + seg.length ≤ cur.size := by
    have : n * d.sz ≤ co * d.sz := Nat.mul_le_mul_right _ hnco
    omega
  obtain ⟨cur', h3, h4, h5⟩ := setCells_row seg (s * d.sz) W cur hh hfit
  obtain ⟨s1, s2, s3, s4⟩ := setCells_same g seg (s * d.sz) W
  have hfar : ∀ k, k ≠ g → (W.setCells g (s * d.sz) seg).heap[k]? = W.heap[k]? := fun k hk => setCells_far seg _ k hk
  refine ⟨⟨hok, inner, ⟨ho1, .inr ⟨g, co, cur', by rw [hlen], hb, h3, hnc', hcm, by rw [h4, hcs], ?_⟩⟩, hr.imp_ (fun _ _ hp => d.M_move (fun k hk => hfar k (fun he => hk.2 (by rw [he]; simp [Value.ownBlock]))) hp)⟩,
    ⟨s1, s2, s3, by rw [s4]; exact Nat.le_refl _, fun k _ hk => hfar k (fun he => hk (by rw [he]))⟩, hb, fun j hj => ?_, fun j _ => ?_⟩
  · rw [← htk, h5]
    apply List.ext_getElem?
    intro q
    rw [List.getElem?_take, List.getElem?_take]
    by_cases hq : q < (xs.take s).length * d.sz
    · rw [if_pos hq, if_pos hq, seg_get cur.toList seg (s * d.sz) (by rw [Array.length_toList]; omega) q]
      rw [hlen] at hq
      rw [if_pos hq]
    · rw [if_neg hq, if_neg hq]
  · have hjc : s * d.sz + j < cur.size := by omega
    rw [cell_of_row W g _ cur e (0, 0) hh, Array.getElem?_eq_getElem hjc]
    rfl
  · exact blk_frozen hh _

section
variable {P : Program} {ops : Array Oper} {rest : List Oper} {o : Oper} {a : Act} {Q : Exit → Act → World → Prop} {α : Type}
theorem clear_R {d : Kd α} {e base n co s m c : Nat} {W : World} {ok : Nat → Prop} {ad : Addr} {xs : List α} {A : Option Addr} (hgd : o.guard = none) (x : Operand) (t : TypeId) (z : Value)
    (ho : o.op = .call { callee := .builtin .clear, args := #[x], argTypes := #[t] }) (ht : P.underlying t = some (.slice e)) (hv : ∀ w, (zeroValue e).run P w = .ok z w) (hz : z.cells.size = d.sz) (h1 : z.cells.toList.all (·.oneCell') = true)
    (hx : a.eval x = .slice A m c) (HO : d.R e W base ok (.slice (some ad) n co) xs) (hs : s ≤ n) (hA : A = if co = s then some ad else ((some ad) : Option Addr).map (·.add (s * d.sz))) (hm : m = n - s)
    (h : ∀ w1, d.R e w1 base ok (.slice (some ad) s co) (xs.take s) → W.grownBy w1 (some ad.block) → Below base W w1 → wpList P ops Q rest (a.put o.dst (.tuple #[])) w1) : wpList P ops Q (o :: rest) a W := by
  have hn := (Kd.R_reads' HO).1
  have hnco := (Kd.R_reads' HO).2.1
  have hrun : ∃ w1, (Builtin.clear_ #[t] o.type #[.slice A m c]).run P W = .ok (.tuple #[]) w1 ∧ d.R e w1 base ok (.slice (some ad) s co) (xs.take s) ∧ W.grownBy w1 (some ad.block) ∧ Below base W w1 := by
    rcases Nat.eq_zero_or_pos m with h0 | h0
    · refine ⟨W, ?_, ?_, World.grownBy.refl W _, Below.refl _ _⟩
      · rw [h0]
        cases A <;> simp [Builtin.clear_, run_underlying ht]
      · obtain rfl : s = n := by omega
        have := Kd.R_take (m := s) HO (by omega)
        exact this
    · obtain ⟨g, cap, he, hb, hl, _⟩ := Kd.R_form HO (by omega)
      injection he with ha _ hc
      injection ha with ha
      subst ha
      obtain rfl : A = some ⟨g, s * d.sz, none⟩ := by
        rw [hA, if_neg (by omega)]
        show some (Addr.add _ _) = _
        rw [add_plain]
      have hcl : (Builtin.zeroCells z.cells m).toList.length = m * d.sz := by rw [Array.length_toList, size_zeroCells, hz]
      have hfit : s * d.sz + (Builtin.zeroCells z.cells m).toList.length ≤ n * d.sz := by
        rw [hcl, hm, ← Nat.add_mul]
        exact Nat.mul_le_mul_right _ (by omega)
      obtain ⟨r1, r2, r3, r4, r5⟩ := R_front HO hs _ hfit
      refine ⟨_, ?_, r1, r2, below_setCells_w' r3 _ _ _⟩
      have hone : ∀ v ∈ (Builtin.zeroCells z.cells m).toList, v.oneCell' = true := by
        intro v hv'
        rw [Array.mem_toList_iff] at hv'
        exact zeroCells_one h1 hv'
      have hst := run_storeCells_cells (P := P) g (s * d.sz) (Builtin.zeroCells z.cells m).toList 0 W (by simpa using r4) (by simpa using r5) hone
      simp only [Nat.add_zero] at hst
      obtain ⟨k, rfl⟩ : ∃ k, m = k + 1 := ⟨m - 1, by omega⟩
      simp [Builtin.clear_, run_underlying ht, hv, hst]
  obtain ⟨w1, hrun, g1, g2, g3⟩ := hrun
  refine wpList_plain hgd fun K hK => ?_
  unfold Oper.wp execOp
  simp only [ho, resolve, invoke, builtin, Sem.run_bind, Sem.run_pure, Result.andThen_ok, List.map_toArray, List.map_cons, List.map_nil, hx, hrun]
  exact hK _ _ (h w1 g1 g2 g3)
end
end Go.Proofs.YtbcocpaeehgmnaaDoorW.Clear
