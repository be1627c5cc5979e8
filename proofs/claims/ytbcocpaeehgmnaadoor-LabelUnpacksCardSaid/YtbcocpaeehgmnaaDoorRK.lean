/- What can be read of a type is a value of its kind: integers, bools, strings, slices, structs; for the rows of laws. -/
import Derived.Test.YtbcocpaeehgmnaaDoorWWords
import Derived.Deep.Slices
import Derived.SizedLaws
import Derived.Below
import Derived.ProofKit
namespace Go.Proofs.YtbcocpaeehgmnaaDoorW.RK
open Go.ChangeShapes Go.WideShapes Go.Proofs.YtbcocpaeehgmnaaDoorW.PrintWords

def Opens {α : Type} (P : Program) (T : TypeId) (d : Kd α) (inv : α → Prop) : Prop :=
  ∀ {H : Type} (enc : TypeId × Value → H) (W : World) (base : Nat) (spare : Nat → Bool) (held : Bool) (fuel : Nat) (cs : List Value) (x : DataW H × List MemPlace),
    DataW.trod enc P W base spare held fuel T cs = some x → (∀ n ∈ x.1.weights P T, n ≤ reachBytes) → ∃ y, d.K W y cs ∧ inv y

theorem Opens.imp {α : Type} {P : Program} {T : TypeId} {d : Kd α} {inv inv' : α → Prop} (h : Opens P T d inv) (hi : ∀ y, inv y → inv' y) : Opens P T d inv' := by
  intro H enc W base spare held fuel cs x hx hw
  obtain ⟨y, hk, hy⟩ := h enc W base spare held fuel cs x hx hw
  exact ⟨y, hk, hi y hy⟩

theorem Opens.int {P : Program} {T : TypeId} {k : IntKind} (ht : P.underlying T = some (.int k)) : Opens P T (Kd.int k) (fun y => (Lit.int k y).wf = true) := by
  intro H enc W base spare held fuel cs x hx _
  obtain ⟨n, rfl, _, hw⟩ := DataW.trod_int ht hx
  exact ⟨n, rfl, hw⟩

theorem Opens.bool {P : Program} {T : TypeId} (ht : P.underlying T = some .bool) : Opens P T Kd.bool (fun _ => True) := by
  intro H enc W base spare held fuel cs x hx _
  obtain ⟨b, rfl, _⟩ := DataW.trod_bool ht hx
  exact ⟨b, rfl, trivial⟩

theorem Opens.string {P : Program} {T : TypeId} (ht : P.underlying T = some .string) : Opens P T Kd.string (fun s => s.size ≤ 140737488351232) := by
  intro H enc W base spare held fuel cs x hx hw
  obtain ⟨s, rfl, rfl, _⟩ := DataW.trod_string ht hx
  refine ⟨s, rfl, ?_⟩
  have h := hw s.data.toList.length (by simp [DataW.weights])
  simpa [reachBytes] using h

theorem list_upto {α : Type} {p : Nat → α → Prop} {n : Nat} (h : ∀ i, i < n → ∃ y, p i y) : ∃ l : List α, l.length = n ∧ ∀ i y, l[i]? = some y → p i y := by
  induction n with
  | zero => exact ⟨[], rfl, fun i y hy => by simp at hy⟩
  | succ n ih =>
    obtain ⟨l, hl, hp⟩ := ih (fun i hi => h i (Nat.lt_succ_of_lt hi))
    obtain ⟨y, hy⟩ := h n (Nat.lt_succ_self n)
    refine ⟨l ++ [y], by simp [hl], fun i z hz => ?_⟩
    rcases Nat.lt_or_ge i l.length with hi | hi
    · rw [List.getElem?_append_left hi] at hz
      exact hp i z hz
    · rw [List.getElem?_append_right hi] at hz
      have hi0 : i - l.length = 0 := by
        rcases Nat.eq_zero_or_pos (i - l.length) with h0 | h0
        · exact h0
        · rw [List.getElem?_eq_none (by simp; omega)] at hz
          cases hz
      rw [hi0] at hz
      have e : i = n := by omega
      subst e
      have e2 : y = z := by simpa using hz
      subst e2
      exact hy

theorem Opens.slice {α : Type} {P : Program} {T e : TypeId} {d : Kd α} {inv : α → Prop} {B : Nat} (ht : P.underlying T = some (.slice e)) (hc : P.cellsOf e = d.sz) (hB : P.bytesOf e = B) (h : Opens P e d inv) :
    Opens P T (Kd.slice e d) (fun l => l.length * B ≤ 140737488351232 ∧ ∀ x ∈ l, inv x) := by
  intro H enc W base spare held fuel cs x hx hw
  rcases Go.Deep.open_slice ht hx with ⟨rfl, rfl⟩ | ⟨a, len, cap, m, n, D, Pl, rfl, hb, hl, hm, hmm, rfl, hel⟩
  · exact ⟨[], ⟨none, 0, rfl, Nat.le_refl _, rfl, by simp, fun hn => absurd hn (by simp)⟩, by simp, by simp⟩
  · have hlm : len ≤ m := by rw [hmm]; split <;> omega
    have hwl : ∀ q, q ∈ ((((List.range len).map D).length + ((List.range (m - len)).map fun j => D (len + j)).length) * P.bytesOf e :: (DataW.weightsAll P e ((List.range len).map D) ++ DataW.weightsAll P e ((List.range (m - len)).map fun j => D (len + j)))) → q ≤ reachBytes := by
      intro q hq
      refine hw q ?_
      simp only [DataW.weights, ht]
      exact hq
    have hall : ∀ (l : List (DataW H)) (z : DataW H), z ∈ l → ∀ q ∈ z.weights P e, q ∈ DataW.weightsAll P e l := by
      intro l
      induction l with
      | nil => intro z hz; cases hz
      | cons u r ih =>
        intro z hz q hq
        simp only [DataW.weightsAll, List.mem_append]
        rcases List.mem_cons.1 hz with rfl | hz
        · exact .inl hq
        · exact .inr (ih z hz q hq)
    obtain ⟨xs, hxl, hxs⟩ := list_upto (p := fun i y => (∃ c, c.length = d.sz ∧ d.K W y c ∧ ∀ j u, c[j]? = some u → W.cell? (a.add (i * d.sz + j)) = some u) ∧ inv y) (n := len) (fun i hi => by
      obtain ⟨cs', h1, h2⟩ := hel i (by omega)
      obtain ⟨y, hk, hy⟩ := h enc W base spare held n cs' _ h2 (fun q hq => hwl q (List.mem_cons_of_mem _ (List.mem_append_left _ (hall _ (D i) (List.mem_map.2 ⟨i, by simpa using hi, rfl⟩) q hq))))
      obtain ⟨_, hlen, hcell⟩ := World.cells?_some h1
      refine ⟨y, ⟨cs', by rw [hlen, hc], hk, fun j u hu => ?_⟩, hy⟩
      have hj : j < P.cellsOf e := by
        have := (List.getElem?_eq_some_iff.1 hu).1
        omega
      have h3 := hcell j hj
      rw [Go.Deep.add_add, hc] at h3
      rw [h3, hu])
    refine ⟨xs, ⟨some a, cap, by rw [hxl], by omega, rfl, by unfold maxLen at hm; omega, fun _ => ⟨a, rfl, fun j p hj => ?_⟩⟩, ?_, ?_⟩
    · exact (hxs j p hj).1
    · have h1 := hwl _ (List.mem_cons_self)
      rw [hB] at h1
      simp only [List.length_map, List.length_range] at h1
      rw [hxl]
      refine Nat.le_trans (Nat.mul_le_mul_right _ (show len ≤ len + (m - len) by omega)) ?_
      simpa [reachBytes] using h1
    · intro y hy
      obtain ⟨i, hi⟩ := List.mem_iff_getElem?.1 hy
      exact (hxs i y hi).2

def OpensF {α : Type} (P : Program) (off total : Nat) (fs : List Field) (d : Kd α) (inv : α → Prop) : Prop :=
  ∀ {H : Type} (enc : TypeId × Value → H) (W : World) (base : Nat) (spare : Nat → Bool) (held : Bool) (fuel : Nat) (cs : List Value) (xs : List (DataW H × List MemPlace)),
    cs.length = total → xs.length = fs.length → (∀ (i : Nat) (f : Field), fs[i]? = some f → DataW.trod enc P W base spare held fuel f.type ((cs.drop f.offset).take (P.cellsOf f.type)) = xs[i]?) →
    (∀ n ∈ DataW.weightsEach P (fs.map (·.type)) (xs.map (·.1)), n ≤ reachBytes) → ∃ y, d.K W y (cs.drop off) ∧ inv y

theorem OpensF.one {α : Type} {P : Program} {off total : Nat} {f : Field} {d : Kd α} {inv : α → Prop} (ho : f.offset = off) (ht : off + P.cellsOf f.type = total) (h : Opens P f.type d inv) : OpensF P off total [f] d inv := by
  intro H enc W base spare held fuel cs xs hl hx hf hw
  match xs, hx with
  | [x0], _ =>
    have h0 := hf 0 f rfl
    rw [ho, List.take_of_length_le (by simp; omega)] at h0
    exact h enc W base spare held fuel _ x0 h0 (fun n hn => hw n (by simp [DataW.weightsEach, hn]))

theorem OpensF.cons {α β : Type} {P : Program} {off off' total : Nat} {f : Field} {fs : List Field} {d : Kd α} {e : Kd β} {inv : α → Prop} {inv2 : β → Prop} (ho : f.offset = off) (hn : off + P.cellsOf f.type = off') (h : Opens P f.type d inv) (hr : OpensF P off' total fs e inv2) :
    OpensF P off total (f :: fs) (Kd.pair d e) (fun y => inv y.1 ∧ inv2 y.2) := by
  subst hn
  intro H enc W base spare held fuel cs xs hl hx hf hw
  match xs, hx with
  | x0 :: xr, hx =>
    have h0 := hf 0 f rfl
    rw [ho] at h0
    obtain ⟨y, hk, hy⟩ := h enc W base spare held fuel _ x0 h0 (fun n hn => hw n (by simp [DataW.weightsEach, hn]))
    obtain ⟨z, hkz, hz⟩ := hr enc W base spare held fuel cs xr hl (by simpa using hx) (fun i g hg => by simpa using hf (i + 1) g (by simpa using hg)) (fun n hn => hw n (by simp only [List.map_cons, DataW.weightsEach, List.mem_append]; exact .inr hn))
    refine ⟨(y, z), ⟨_, _, ?_, hk, hkz⟩, hy, hz⟩
    rw [← List.drop_drop]
    exact (List.take_append_drop _ _).symm

theorem Opens.struct {α : Type} {P : Program} {T : TypeId} {fs : Array Field} {d : Kd α} {inv : α → Prop} {total : Nat} (ht : P.underlying T = some (.struct fs)) (hT : P.cellsOf T = total) (h : OpensF P 0 total fs.toList d inv) : Opens P T d inv := by
  intro H enc W base spare held fuel cs x hx hw
  obtain ⟨xs, n, rfl, rfl, hl, hlen, hf⟩ := DataW.trod_struct ht hx
  have hw2 : ∀ n ∈ DataW.weightsEach P (fs.toList.map (·.type)) (xs.map (·.1)), n ≤ reachBytes := by
    intro q hq
    refine hw q ?_
    simp only [DataW.weights, ht]
    exact hq
  have h0 := h enc W base spare held n cs xs (by rw [hl, hT]) (by simpa using hlen) (fun i f hi => hf i f (by simpa using hi)) hw2
  simpa using h0

theorem Opens.iso {α β : Type} {P : Program} {T : TypeId} {d : Kd α} {inv : α → Prop} {inv' : β → Prop} {f : β → α} (g : α → β) (hfg : ∀ x, f (g x) = x) (h : Opens P T d inv) (hi : ∀ x, inv x → inv' (g x)) : Opens P T (Kd.iso d f) inv' := by
  intro H enc W base spare held fuel cs x hx hw
  obtain ⟨y, hk, hy⟩ := h enc W base spare held fuel cs x hx hw
  exact ⟨g y, by show d.K W (f (g y)) cs; rw [hfg]; exact hk, hi y hy⟩

/-- An argument of a law. -/
theorem Opens.arg {α : Type} {P : Program} {T : TypeId} {d : Kd α} {inv : α → Prop} (h : Opens P T d inv) {H : Type} {enc : TypeId × Value → H} {W : World} {base : Nat} {spare : Nat → Bool} {held : Bool} {v : Value} {x : DataW H} {ps : List MemPlace} {ts : List TypeId} {ds : List (DataW H)}
    (hd : DataW.Trod enc P W base spare held T v x ps) (j : Nat) (hsz : (DataW.weightsEach P ts ds).all (· ≤ reachBytes) = true) (ht : ts[j]? = some T) (hx : ds[j]? = some x) : ∃ y, d.K W y v.cells.toList ∧ inv y := by
  obtain ⟨fuel, hf⟩ := hd
  refine h enc W base spare held fuel _ _ hf (fun n hn => ?_)
  have := List.all_eq_true.1 hsz n (DataW.weights_mem_each ht hx n hn)
  simpa using this

theorem Opens.arg_slice {α : Type} {P : Program} {T e : TypeId} {d : Kd α} {inv : List α → Prop} (h : Opens P T (Kd.slice e d) inv) {H : Type} {enc : TypeId × Value → H} {W : World} {base : Nat} {spare : Nat → Bool} {held : Bool} {v : Value} {x : DataW H} {ps : List MemPlace} {ts : List TypeId} {ds : List (DataW H)}
    (hd : DataW.Trod enc P W base spare held T v x ps) (j : Nat) (hsz : (DataW.weightsEach P ts ds).all (· ≤ reachBytes) = true) (ht : ts[j]? = some T) (hx : ds[j]? = some x) {a : Option Addr} {len cap : Nat} (hv : v = .slice a len cap) :
    ∃ l, v = .slice a l.length cap ∧ l.length ≤ cap ∧ Kd.C d W a l.length l ∧ inv l := by
  subst hv
  obtain ⟨y, ⟨A, c, hcs, hl, hC⟩, hy⟩ := h.arg hd j hsz ht hx
  simp [Value.cells] at hcs
  obtain ⟨rfl, rfl, rfl⟩ := hcs
  exact ⟨y, rfl, hl, hC, hy⟩

end Go.Proofs.YtbcocpaeehgmnaaDoorW.RK
