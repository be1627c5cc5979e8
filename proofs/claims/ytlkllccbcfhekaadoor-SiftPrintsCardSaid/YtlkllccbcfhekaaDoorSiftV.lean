/- What a filter holds (a struct nested in itself), and that it can be opened: by the size of what is read. -/
import Derived.Test.YtlkllccbcfhekaaDoorSiftx0
import Derived.Test.YtlkllccbcfhekaaDoorRK
namespace Go.Proofs.YtlkllccbcfhekaaDoor.Sift
open Go.ChangeShapes Go.WideShapes Go.RowKit Go.Proofs.YtlkllccbcfhekaaDoorW.PrintWords Go.Proofs.YtlkllccbcfhekaaDoorW.RK

def OpensB {α : Type} (Fu : Nat) (P : Program) (T : TypeId) (d : Kd α) (inv : α → Prop) : Prop :=
  ∀ {H : Type} (enc : TypeId × Value → H) (W : World) (base : Nat) (spare : Nat → Bool) (held : Bool) (fuel : Nat) (cs : List Value) (x : DataW H × List MemPlace), SizeOf.sizeOf x.1 < Fu →
    DataW.trod enc P W base spare held fuel T cs = some x → (∀ n ∈ x.1.weights P T, n ≤ reachBytes) → ∃ y, d.K W y cs ∧ inv y
theorem OpensB.of {α : Type} {Fu : Nat} {P : Program} {T : TypeId} {d : Kd α} {inv : α → Prop} (h : Opens P T d inv) : OpensB Fu P T d inv :=
  fun enc W base spare held fuel cs x _ hx hw => h enc W base spare held fuel cs x hx hw
theorem OpensB.all {α : Type} {P : Program} {T : TypeId} {d : Nat → Kd α} {inv : Nat → α → Prop} {dd : Kd α} {ii : α → Prop} (h : ∀ n, OpensB n P T (d n) (inv n)) (hd : ∀ n W y cs, (d n).K W y cs → dd.K W y cs) (hi : ∀ n y, inv n y → ii y) : Opens P T dd ii := by
  intro H enc W base spare held fuel cs x hx hw
  obtain ⟨y, hk, hy⟩ := h (SizeOf.sizeOf x.1 + 1) enc W base spare held fuel cs x (Nat.lt_succ_self _) hx hw
  exact ⟨y, hd _ _ _ _ hk, hi _ _ hy⟩

theorem OpensB.slice {α : Type} {Fu : Nat} {P : Program} {T e : TypeId} {d : Kd α} {inv : α → Prop} {B : Nat} (ht : P.underlying T = some (.slice e)) (hc : P.cellsOf e = d.sz) (hB : P.bytesOf e = B) (h : OpensB Fu P e d inv) :
    OpensB (Fu + 1) P T (Kd.slice e d) (fun l => l.length * B ≤ 140737488351232 ∧ ∀ x ∈ l, inv x) := by
  intro H enc W base spare held fuel cs x hfu hx hw
  rcases Go.Deep.open_slice ht hx with ⟨rfl, rfl⟩ | ⟨a, len, cap, m, n, D, Pl, rfl, hb, hl, hm, hmm, rfl, hel⟩
  · exact ⟨[], ⟨none, 0, rfl, Nat.le_refl _, rfl, by simp, fun hn => absurd hn (by simp)⟩, by simp, by simp⟩
  · have hlm : len ≤ m := by rw [hmm]; split <;> omega
    have hwl : ∀ q, q ∈ ((((List.range len).map D).length + ((List.range (m - len)).map fun j => D (len + j)).length) * P.bytesOf e :: (DataW.weightsAll P e ((List.range len).map D) ++ DataW.weightsAll P e ((List.range (m - len)).map fun j => D (len + j)))) → q ≤ reachBytes := by
      intro q hq
      refine hw q ?_
      simp only [DataW.weights, ht]
      exact hq
    have hall : ∀ (l : List (DataW H)) (z : DataW H), z ∈ l → ∀ q ∈ z.weights P e, q ∈ DataW.weightsAll P e l := by
      intro l
      induction l with
      | nil => intro z hz; cases hz
      | cons u r ih =>
        intro z hz q hq
        simp only [DataW.weightsAll, List.mem_append]
        rcases List.mem_cons.1 hz with rfl | hz
        · exact .inl hq
        · exact .inr (ih z hz q hq)
    obtain ⟨xs, hxl, hxs⟩ := list_upto (p := fun i y => (∃ c, c.length = d.sz ∧ d.K W y c ∧ ∀ j u, c[j]? = some u → W.cell? (a.add (i * d.sz + j)) = some u) ∧ inv y) (n := len) (fun i hi => by
      obtain ⟨cs', h1, h2⟩ := hel i (by omega)
      have hlt : SizeOf.sizeOf (D i) < Fu := by
        have h8 : D i ∈ (List.range len).map D := List.mem_map.2 ⟨i, by simpa using hi, rfl⟩
        have h9 := List.sizeOf_lt_of_mem h8
        simp only [DataW.slice.sizeOf_spec] at hfu
        omega
      obtain ⟨y, hk, hy⟩ := h enc W base spare held n cs' _ hlt h2 (fun q hq => hwl q (List.mem_cons_of_mem _ (List.mem_append_left _ (hall _ (D i) (List.mem_map.2 ⟨i, by simpa using hi, rfl⟩) q hq))))
      obtain ⟨_, hlen, hcell⟩ := World.cells?_some h1
      refine ⟨y, ⟨cs', by rw [hlen, hc], hk, fun j u hu => ?_⟩, hy⟩
      have hj : j < P.cellsOf e := by
        have := (List.getElem?_eq_some_iff.1 hu).1
        omega
      have h3 := hcell j hj
      rw [Go.Deep.add_add, hc] at h3
      rw [h3, hu])
    refine ⟨xs, ⟨some a, cap, by rw [hxl], by omega, rfl, by unfold maxLen at hm; omega, fun _ => ⟨a, rfl, fun j p hj => ?_⟩⟩, ?_, ?_⟩
    · exact (hxs j p hj).1
    · have h1 := hwl _ (List.mem_cons_self)
      rw [hB] at h1
      simp only [List.length_map, List.length_range] at h1
      rw [hxl]
      refine Nat.le_trans (Nat.mul_le_mul_right _ (show len ≤ len + (m - len) by omega)) ?_
      simpa [reachBytes] using h1
    · intro y hy
      obtain ⟨i, hi⟩ := List.mem_iff_getElem?.1 hy
      exact (hxs i y hi).2

def OpensFB {α : Type} (Fu : Nat) (P : Program) (off total : Nat) (fs : List Field) (d : Kd α) (inv : α → Prop) : Prop :=
  ∀ {H : Type} (enc : TypeId × Value → H) (W : World) (base : Nat) (spare : Nat → Bool) (held : Bool) (fuel : Nat) (cs : List Value) (xs : List (DataW H × List MemPlace)), (∀ y ∈ xs, SizeOf.sizeOf y.1 < Fu) →
    cs.length = total → xs.length = fs.length → (∀ (i : Nat) (f : Field), fs[i]? = some f → DataW.trod enc P W base spare held fuel f.type ((cs.drop f.offset).take (P.cellsOf f.type)) = xs[i]?) →
    (∀ n ∈ DataW.weightsEach P (fs.map (·.type)) (xs.map (·.1)), n ≤ reachBytes) → ∃ y, d.K W y (cs.drop off) ∧ inv y

theorem OpensFB.one {α : Type} {Fu : Nat} {P : Program} {off total : Nat} {f : Field} {d : Kd α} {inv : α → Prop} (ho : f.offset = off) (ht : off + P.cellsOf f.type = total) (h : OpensB Fu P f.type d inv) : OpensFB Fu P off total [f] d inv := by
  intro H enc W base spare held fuel cs xs hs hl hx hf hw
  match xs, hx with
  | [x0], _ =>
    have h0 := hf 0 f rfl
    rw [ho, List.take_of_length_le (by simp; omega)] at h0
    exact h enc W base spare held fuel _ x0 (hs x0 (by simp)) h0 (fun n hn => hw n (by simp [DataW.weightsEach, hn]))

theorem OpensFB.cons {α β : Type} {Fu : Nat} {P : Program} {off off' total : Nat} {f : Field} {fs : List Field} {d : Kd α} {e : Kd β} {inv : α → Prop} {inv2 : β → Prop} (ho : f.offset = off) (hn : off + P.cellsOf f.type = off') (h : OpensB Fu P f.type d inv) (hr : OpensFB Fu P off' total fs e inv2) :
    OpensFB Fu P off total (f :: fs) (Kd.pair d e) (fun y => inv y.1 ∧ inv2 y.2) := by
  subst hn
  intro H enc W base spare held fuel cs xs hs hl hx hf hw
  match xs, hx, hs with
  | x0 :: xr, hx, hs =>
    have h0 := hf 0 f rfl
    rw [ho] at h0
    obtain ⟨y, hk, hy⟩ := h enc W base spare held fuel _ x0 (hs x0 (by simp)) h0 (fun n hn => hw n (by simp [DataW.weightsEach, hn]))
    obtain ⟨z, hkz, hz⟩ := hr enc W base spare held fuel cs xr (fun y hy => hs y (List.mem_cons_of_mem _ hy)) hl (by simpa using hx) (fun i g hg => by simpa using hf (i + 1) g (by simpa using hg)) (fun n hn => hw n (by simp only [List.map_cons, DataW.weightsEach, List.mem_append]; exact .inr hn))
    refine ⟨(y, z), ⟨_, _, ?_, hk, hkz⟩, hy, hz⟩
    rw [← List.drop_drop]
    exact (List.take_append_drop _ _).symm

theorem OpensB.struct {α : Type} {Fu : Nat} {P : Program} {T : TypeId} {fs : Array Field} {d : Kd α} {inv : α → Prop} {total : Nat} (ht : P.underlying T = some (.struct fs)) (hT : P.cellsOf T = total) (h : OpensFB Fu P 0 total fs.toList d inv) : OpensB (Fu + 1) P T d inv := by
  intro H enc W base spare held fuel cs x hfu hx hw
  obtain ⟨xs, n, rfl, rfl, hl, hlen, hf⟩ := DataW.trod_struct ht hx
  have hw2 : ∀ n ∈ DataW.weightsEach P (fs.toList.map (·.type)) (xs.map (·.1)), n ≤ reachBytes := by
    intro q hq
    refine hw q ?_
    simp only [DataW.weights, ht]
    exact hq
  have hs : ∀ y ∈ xs, SizeOf.sizeOf y.1 < Fu := by
    intro y hy
    have h9 := List.sizeOf_lt_of_mem (List.mem_map.2 ⟨y, hy, rfl⟩ : y.1 ∈ xs.map (·.1))
    simp only [DataW.agg.sizeOf_spec] at hfu
    omega
  have h0 := h enc W base spare held n cs xs hs (by rw [hl, hT]) (by simpa using hlen) (fun i f hi => hf i f (by simpa using hi)) hw2
  simpa using h0

theorem OpensB.iso {α β : Type} {Fu : Nat} {P : Program} {T : TypeId} {d : Kd α} {inv : α → Prop} {inv' : β → Prop} {f : β → α} (g : α → β) (hfg : ∀ x, f (g x) = x) (h : OpensB Fu P T d inv) (hi : ∀ x, inv x → inv' (g x)) : OpensB Fu P T (Kd.iso d f) inv' := by
  intro H enc W base spare held fuel cs x hfu hx hw
  obtain ⟨y, hk, hy⟩ := h enc W base spare held fuel cs x hfu hx hw
  exact ⟨g y, by show d.K W (f (g y)) cs; rw [hfg]; exact hk, hi y hy⟩

theorem OpensB.le {α : Type} {Fu Fv : Nat} {P : Program} {T : TypeId} {d : Kd α} {inv : α → Prop} (hle : Fv ≤ Fu) (h : OpensB Fu P T d inv) : OpensB Fv P T d inv :=
  fun enc W base spare held fuel cs x hfu hx hw => h enc W base spare held fuel cs x (Nat.lt_of_lt_of_le hfu hle) hx hw

/-- What a filter of at most n rounds holds. -/
def v24n : Nat → S24 → Prop
  | 0, _ => False
  | n + 1, x => x.f0.size ≤ 140737488351232 ∧ x.f1.size ≤ 140737488351232 ∧ (Lit.int .i64 x.f2).wf = true ∧ (Lit.int .i64 x.f3).wf = true ∧ (x.f4.length * 72 ≤ 140737488351232 ∧ ∀ y ∈ x.f4, v24n n y)
def v24 (x : S24) : Prop := ∃ n, v24n n x
theorem opens24n : ∀ n, OpensB n Tryd.prog 24 (Kd.upto F24 5 [24] n) (v24n n)
  | 0 => fun _ _ _ _ _ _ _ _ h => absurd h (Nat.not_lt_zero _)
  | n + 1 => OpensB.iso (fun y => (⟨y.1, y.2.1, y.2.2.1, y.2.2.2.1, y.2.2.2.2⟩ : S24)) (fun _ => rfl)
      (OpensB.struct (total := 5) Tryd.underlying24 (by kernel_rfl) (OpensFB.cons (off' := 1) (by kernel_rfl) (by kernel_rfl) (OpensB.of (Opens.string Tryd.underlying9)) (OpensFB.cons (off' := 2) (by kernel_rfl) (by kernel_rfl) (OpensB.of (Opens.string Tryd.underlying9))
        (OpensFB.cons (off' := 3) (by kernel_rfl) (by kernel_rfl) (OpensB.of (Opens.int (k := .i64) Tryd.underlying3)) (OpensFB.cons (off' := 4) (by kernel_rfl) (by kernel_rfl) (OpensB.of (Opens.int (k := .i64) Tryd.underlying3))
          (OpensFB.one (by kernel_rfl) (by kernel_rfl) (OpensB.le (Nat.le_succ _) (OpensB.slice (B := 72) Tryd.underlying22 (by rw [sz24]; kernel_rfl) (by kernel_rfl) (opens24n n)))))))))
      (fun _ h => by unfold v24n; exact h)
theorem opens24 : Opens Tryd.prog 24 k24 v24 := OpensB.all opens24n (fun n W y cs h => (show ∃ n, (Kd.upto F24 5 [24] n).K W y cs from ⟨n, h⟩)) (fun n _ h => ⟨n, h⟩)
end Go.Proofs.YtlkllccbcfhekaaDoor.Sift
