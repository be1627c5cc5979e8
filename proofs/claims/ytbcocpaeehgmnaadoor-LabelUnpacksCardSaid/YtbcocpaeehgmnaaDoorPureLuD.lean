/- What the packer makes of labels, as one plain function; put_at: the program's packer answers so. -/
import Derived.Test.YtbcocpaeehgmnaaDoorPureLpC
import Derived.Test.YtbcocpaeehgmnaaDoorLpx7
namespace Go.Proofs.YtbcocpaeehgmnaaDoor.Pure
open Go.RowKit Go.Proofs.YtbcocpaeehgmnaaDoor.Lp Go.Proofs.YtbcocpaeehgmnaaDoor.Runes Go.Proofs.YtbcocpaeehgmnaaDoorW.PrintWords Go.Proofs.YtbcocpaeehgmnaaDoorW.PrintLast

theorem strOfNums_append (a b : List Int) : strOfNums a ++ strOfNums b = strOfNums (a ++ b) := by
  apply ByteArray.ext
  simp [strOfNums, ByteArray.data_append]
theorem strOfNums_size (a : List Int) : (strOfNums a).size = a.length := by
  show (strOfNums a).data.size = _
  simp [strOfNums]
theorem strOfNums_bytes (s : ByteArray) : strOfNums (bytesOf s) = s := by
  apply ByteArray.ext
  simp only [strOfNums, bytesOf, List.map_map]
  apply Array.ext'
  simp only
  have e : ((fun n : Int => UInt8.ofNat n.toNat) ∘ fun b : UInt8 => (b.toNat : Int)) = id := by
    funext b
    simp
  rw [e, List.map_id]
/-- From some number of rounds on f answers r. -/
def Ev {α : Type} (f : Nat → Option α) (r : α) : Prop := ∃ K, ∀ k, K ≤ k → f k = some r
theorem Ev.now {α : Type} (r : α) : Ev (fun _ => some r) r := ⟨0, fun _ _ => rfl⟩
theorem Ev.congr {α : Type} {f g : Nat → Option α} {r : α} (h : ∀ k, g k = f k) (hf : Ev f r) : Ev g r := by
  obtain ⟨K, hK⟩ := hf
  exact ⟨K, fun k hk => (h k).trans (hK k hk)⟩
theorem Ev.step {α : Type} {f g : Nat → Option α} {r : α} (h : ∀ k, g (k + 1) = f k) (hf : Ev f r) : Ev g r := by
  obtain ⟨K, hK⟩ := hf
  refine ⟨K + 1, fun k hk => ?_⟩
  obtain ⟨m, rfl⟩ : ∃ m, k = m + 1 := ⟨k - 1, by omega⟩
  exact (h m).trans (hK m (by omega))
theorem Ev.bind {α β : Type} {f : Nat → Option α} {g : Nat → α → Option β} {x : α} {r : β} (hf : Ev f x) (hg : Ev (fun k => g k x) r) : Ev (fun k => (f k).bind (g k)) r := by
  obtain ⟨K, hK⟩ := hf
  obtain ⟨J, hJ⟩ := hg
  refine ⟨K + J, fun k hk => ?_⟩
  show (f k).bind (g k) = some r
  rw [hK k (by omega), Option.bind_some]
  exact hJ k (by omega)

/-- The two bytes of a pointer, as the reference spells them. -/
def ptr (a : Int) : List Int := [(wrap64 (192 + (wrap64 (Int.tdiv a 256)))) % 256, (Int.tmod a 256) % 256]
theorem w64b {x : Int} (h1 : -9223372036854775808 ≤ x) (h2 : x ≤ 9223372036854775807) : wrap64 x = x := by
  unfold wrap64
  omega
theorem ptr_small (a : Int) (h0 : 0 ≤ a) (h1 : a ≤ 4000) : ptr a = [192 + a / 256, a % 256] := by
  unfold ptr
  have e1 : wrap64 (192 + wrap64 (Int.tdiv a 256)) % 256 = 192 + a / 256 := by
    rw [Int.tdiv_eq_ediv_of_nonneg h0, w64b (x := a / 256) (by omega) (by omega), w64b (by omega) (by omega)]
    omega
  have e2 : Int.tmod a 256 % 256 = a % 256 := by
    rw [Int.tmod_eq_emod_of_nonneg h0]
    omega
  rw [e1, e2]
def putP : List (List UInt8) → List Int → List (ByteArray × Int) → List Int × List (ByteArray × Int)
  | [], o, kn => (o ++ [0], kn)
  | x :: r, o, kn => match Lp.look kn (mk (nameL (x :: r))) with
    | some a => (o ++ ptr a, kn)
    | none => putP r ((o ++ [(x.length : Int)]) ++ bytesOf (mk x)) (kn ++ [(mk (nameL (x :: r)), (o.length : Int))])
/-- What is kept between two steps. -/
structure Inv (l : List (List UInt8)) (o : List Int) (kn : List (ByteArray × Int)) : Prop where
  few : l.length ≤ 100
  each : ∀ s ∈ l, s.length ≤ 100
  out : o.length + (flat l).length ≤ 100000
  known : kn.length + l.length ≤ 10000
  offs : ∀ p ∈ kn, 0 ≤ p.2 ∧ p.2 ≤ 100000
theorem inv_next {x : List UInt8} {r : List (List UInt8)} {o : List Int} {kn : List (ByteArray × Int)} {nm : ByteArray} (h : Inv (x :: r) o kn) : Inv r ((o ++ [(x.length : Int)]) ++ bytesOf (mk x)) (kn ++ [(nm, (o.length : Int))]) := by
  obtain ⟨h1, h2, h3, h4, h5⟩ := h
  rw [flat_cons] at h3
  simp only [List.length_append, List.length_cons] at h1 h3 h4
  refine ⟨by omega, fun s hs => h2 s (List.mem_cons_of_mem _ hs), ?_, ?_, ?_⟩
  · simp only [List.length_append, List.length_cons, List.length_nil, bytesOf_length, mk_size]
    omega
  · simp only [List.length_append, List.length_cons, List.length_nil]
    omega
  · intro p hp
    rcases List.mem_append.1 hp with hp | hp
    · exact h5 p hp
    · rw [List.mem_singleton] at hp
      subst hp
      simp only []
      omega
theorem look_mem {kn : List (ByteArray × Int)} {s : ByteArray} {a : Int} (h : Lp.look kn s = some a) : ∃ p ∈ kn, p.2 = a := by
  unfold Lp.look at h
  obtain ⟨p, hp, e⟩ := Option.map_eq_some_iff.1 h
  exact ⟨p, List.mem_of_find?_eq_some hp, e⟩
theorem or_at (n : Nat) (h : n < 64) : Go.bits .or .u8 192 (n : Int) = 192 + (n : Int) := by
  have H : ∀ m : Fin 64, Go.bits .or .u8 192 ((m.val : Nat) : Int) = 192 + ((m.val : Nat) : Int) := by decide +kernel
  exact H ⟨n, h⟩
theorem or_int (a : Int) (h0 : 0 ≤ a) (h1 : a ≤ 4000) : Go.bits .or .u8 192 ((a / 256) % 256) = 192 + a / 256 := by
  obtain ⟨m, hm⟩ := Int.eq_ofNat_of_zero_le (show 0 ≤ a / 256 by omega)
  have e : (a / 256) % 256 = a / 256 := by omega
  rw [e, hm]
  exact or_at m (by omega)
theorem put_at : ∀ (l : List (List UInt8)) (o : List Int) (kn : List (ByteArray × Int)), Inv l o kn → o.length + (flat l).length ≤ 4000 → (∀ p ∈ kn, p.2 ≤ 4000) → putM (l.map mk) o kn = some (putP l o kn) := by
  intro l
  induction l with
  | nil =>
    intro o kn h hs ho
    have := h.out
    rw [List.map_nil, putM, if_pos (by omega), putP]
  | cons x r ih =>
    intro o kn h hs ho
    have h3 := hs
    rw [flat_cons] at h3
    simp only [List.length_append, List.length_cons] at h3
    have h4 := h.known
    have hj := join_at (x :: r) (by have := h.few; omega) h.each
    have hn : (nameL (x :: r)).length ≤ 4000 := by
      unfold nameL
      rw [if_neg (by simp), flat_cons]
      simp only [List.length_append, List.length_cons]
      omega
    rw [List.map_cons] at hj ⊢
    rw [putM, if_pos ⟨by rw [mk_size]; omega, by omega⟩, hj, Option.bind_some, if_pos (by rw [mk_size]; omega), putP]
    cases hk : Lp.look kn (mk (nameL (x :: r))) with
    | some a =>
      obtain ⟨p, hp, e⟩ := look_mem hk
      obtain ⟨h6, _⟩ := h.offs p hp
      have h7 := ho p hp
      simp only []
      rw [or_int a (by omega) (by omega), ptr_small a (by omega) (by omega)]
    | none =>
      simp only []
      have e1 : ((mk x).size : Int) % 256 = (x.length : Int) := by
        have := h.each x List.mem_cons_self
        rw [mk_size]
        omega
      have e2 : max 0 (min (o.length : Int) 16383) = (o.length : Int) := by omega
      rw [e1, e2]
      refine ih _ _ (inv_next h) ?_ ?_
      · simp only [List.length_append, List.length_cons, List.length_nil, bytesOf_length, mk_size]
        omega
      · intro p hp
        rcases List.mem_append.1 hp with hp | hp
        · exact ho p hp
        · rw [List.mem_singleton] at hp
          subst hp
          simp only []
          omega
/-- How far it goes. -/
theorem putP_facts : ∀ (l : List (List UInt8)) (o : List Int) (kn : List (ByteArray × Int)), Inv l o kn → (putP l o kn).1.length ≤ o.length + (flat l).length + 2 ∧ (putP l o kn).2.length ≤ kn.length + l.length ∧ ∀ p ∈ (putP l o kn).2, 0 ≤ p.2 ∧ p.2 ≤ 100000 := by
  intro l
  induction l with
  | nil =>
    intro o kn h
    rw [putP]
    exact ⟨by simp [flat], by simp, h.offs⟩
  | cons x r ih =>
    intro o kn h
    rw [putP]
    split
    · exact ⟨by simp [ptr], by simp, h.offs⟩
    · have h2 := ih _ _ (inv_next (nm := mk (nameL (x :: r))) h)
      refine ⟨?_, ?_, h2.2.2⟩
      · have h3 := h2.1
        rw [flat_cons]
        simp only [List.length_append, List.length_cons, List.length_nil, bytesOf_length, mk_size] at h3 ⊢
        omega
      · have h3 := h2.2.1
        simp only [List.length_append, List.length_cons, List.length_nil] at h3 ⊢
        omega
end Go.Proofs.YtbcocpaeehgmnaaDoor.Pure
