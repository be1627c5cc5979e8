/- What a place of packed bytes tells, and that the packing tells its names. -/
import Derived.Test.YtbcocpaeehgmnaaDoorPureLuF
namespace Go.Proofs.YtbcocpaeehgmnaaDoor.Pure
open Go.RowKit Go.Proofs.YtbcocpaeehgmnaaDoor.Lp Go.Proofs.YtbcocpaeehgmnaaDoor.Runes Go.Proofs.YtbcocpaeehgmnaaDoorW.PrintWords Go.Proofs.YtbcocpaeehgmnaaDoorW.PrintLast

def u8 (n : Int) : UInt8 := UInt8.ofNat n.toNat
def toU (o : List Int) : List UInt8 := o.map u8
theorem strOf_mk (o : List Int) : strOfNums o = mk (toU o) := by
  apply ByteArray.ext
  simp [strOfNums, mk, toU, u8]
theorem toU_append (a b : List Int) : toU (a ++ b) = toU a ++ toU b := by simp [toU]
theorem toU_length (a : List Int) : (toU a).length = a.length := by simp [toU]
theorem toU_bytes (x : List UInt8) : toU (bytesOf (mk x)) = x := by
  have h : mk (toU (bytesOf (mk x))) = mk x := by rw [← strOf_mk, strOfNums_bytes]
  exact mk_inj h
theorem u8_toNat (n : Nat) (h : n < 256) : (u8 (n : Int)).toNat = n := by
  unfold u8
  rw [Int.toNat_natCast, UInt8.toNat_ofNat_of_lt' (by simpa using h)]
/-- Place p of L tells the labels ls; nxt: what lies behind; z: behind the zero that ends it; n: the steps. -/
inductive At (L : List UInt8) : Nat → List (List UInt8) → Nat → Nat → Nat → Prop
  | zero {p : Nat} (h : p < L.length) (hb : L[p].toNat = 0) : At L p [] (p + 1) (p + 1) 1
  | lab {p : Nat} {x : List UInt8} {ls : List (List UInt8)} {nxt z n : Nat} (h : p < L.length) (hb : L[p].toNat = x.length) (h1 : 1 ≤ x.length) (h2 : x.length < 64) (hl : p + 1 + x.length ≤ L.length) (ht : (L.drop (p + 1)).take x.length = x) (t : At L (p + 1 + x.length) ls nxt z n) : At L p (x :: ls) nxt z (n + 1)
  | ptr {p a : Nat} {ls : List (List UInt8)} {nxt z n : Nat} (h : p + 1 < L.length) (hb : L[p].toNat = 192 + a / 256) (hc : L[p + 1].toNat = a % 256) (ha : a < p) (ha2 : a < 16384) (hz : z ≤ p) (t : At L a ls nxt z n) : At L p ls (p + 2) z (n + 1)
theorem At.lt {L : List UInt8} {p nxt z n : Nat} {ls : List (List UInt8)} (h : At L p ls nxt z n) : p < L.length := by
  cases h <;> omega
theorem At.ends {L : List UInt8} {p nxt z n : Nat} {ls : List (List UInt8)} (h : At L p ls nxt z n) : z ≤ L.length ∧ nxt ≤ L.length ∧ p < nxt := by
  induction h with
  | zero h hb => omega
  | lab h hb h1 h2 hl ht t ih => omega
  | ptr h hb hc ha ha2 hz t ih => omega
theorem At.more {L : List UInt8} {p nxt z n : Nat} {ls : List (List UInt8)} (h : At L p ls nxt z n) (T : List UInt8) : At (L ++ T) p ls nxt z n := by
  induction h with
  | zero h hb => exact .zero (by rw [List.length_append]; omega) (by rw [List.getElem_append_left h]; exact hb)
  | lab h hb h1 h2 hl ht t ih =>
    refine .lab (by rw [List.length_append]; omega) (by rw [List.getElem_append_left h]; exact hb) h1 h2 (by rw [List.length_append]; omega) ?_ ih
    rw [List.drop_append_of_le_length (by omega), List.take_append_of_le_length (by rw [List.length_drop]; omega)]
    exact ht
  | ptr h hb hc ha ha2 hz t ih => exact .ptr (by rw [List.length_append]; omega) (by rw [List.getElem_append_left (by omega)]; exact hb) (by rw [List.getElem_append_left h]; exact hc) ha ha2 hz ih
def Good (L : List UInt8) (p : ByteArray × Int) : Prop :=
  ∃ ls nxt z n, At L p.2.toNat ls nxt z n ∧ 0 ≤ p.2 ∧ ls ≠ [] ∧ p.1 = mk (flat ls) ∧ (∀ s ∈ ls, ∀ x ∈ s, x ≠ 46) ∧ n ≤ 2 * ls.length
theorem Good.more {L : List UInt8} {p : ByteArray × Int} (h : Good L p) (T : List UInt8) : Good (L ++ T) p := by
  obtain ⟨ls, nxt, z, n, h1, h2⟩ := h
  exact ⟨ls, nxt, z, n, h1.more T, h2⟩
theorem look_key {kn : List (ByteArray × Int)} {s : ByteArray} {a : Int} (h : Lp.look kn s = some a) : ∃ p ∈ kn, p.1 = s ∧ p.2 = a := by
  unfold Lp.look at h
  obtain ⟨p, hp, e⟩ := Option.map_eq_some_iff.1 h
  exact ⟨p, List.mem_of_find?_eq_some hp, by simpa using List.find?_some hp, e⟩
theorem put_good : ∀ (l : List (List UInt8)) (o : List Int) (kn : List (ByteArray × Int)), (∀ s ∈ l, (∀ x ∈ s, x ≠ 46) ∧ 1 ≤ s.length ∧ s.length < 64) → o.length + (flat l).length ≤ 4000 → (∀ p ∈ kn, p.2 ≤ 4000) → (∀ p ∈ kn, Good (toU o) p ∨ (flat l).length < p.1.size) →
    (∃ T, toU (putP l o kn).1 = toU o ++ T) ∧ (∃ z n, At (toU (putP l o kn).1) o.length l (putP l o kn).1.length z n ∧ n ≤ 2 * l.length + 1) ∧ ∀ p ∈ (putP l o kn).2, Good (toU (putP l o kn).1) p ∨ p ∈ kn := by
  intro l
  induction l with
  | nil =>
    intro o kn _ _ _ _
    rw [putP]
    refine ⟨⟨[0], by rw [toU_append]; rfl⟩, ⟨o.length + 1, 1, ?_, by simp⟩, fun p hp => .inr hp⟩
    simp only [List.length_append, List.length_cons, List.length_nil]
    refine .zero (by rw [toU_length]; simp) ?_
    simp [toU, u8]
  | cons x r ih =>
    intro o kn hs hl ho hg
    have hx := hs x List.mem_cons_self
    have hl2 := hl
    rw [flat_cons] at hl2
    simp only [List.length_append, List.length_cons] at hl2
    rw [putP]
    cases hk : Lp.look kn (mk (nameL (x :: r))) with
    | some a =>
      obtain ⟨p, hp, e1, e2⟩ := look_key hk
      have hnl : nameL (x :: r) = flat (x :: r) := by unfold nameL; rw [if_neg (by simp)]
      rw [hnl] at e1
      simp only []
      rcases hg p hp with ⟨ls, nxt, z, n, hA, h0, hne, hpn, hcl, hn⟩ | hb
      · have hf : flat ls = flat (x :: r) := mk_inj (hpn.symm.trans e1)
        have hcu : ls ++ [[]] = (x :: r) ++ [[]] := by rw [← cut_flat ls hcl, ← cut_flat (x :: r) (fun s h => (hs s h).1), hf]
        have hls : ls = x :: r := List.append_cancel_right hcu
        subst hls
        have ha := ho p hp
        rw [e2] at hA h0 ha
        have hlt := hA.lt
        rw [toU_length] at hlt
        have hze := hA.ends.1
        rw [toU_length] at hze
        obtain ⟨m, hm⟩ := Int.eq_ofNat_of_zero_le h0
        have hm2 : a.toNat = m := by omega
        rw [hm2] at hA hlt
        have hpt : ptr a = [((192 + m / 256 : Nat) : Int), ((m % 256 : Nat) : Int)] := by
          rw [ptr_small a h0 ha, hm]
          congr 1
        have hT : toU (o ++ ptr a) = toU o ++ [u8 ((192 + m / 256 : Nat) : Int), u8 ((m % 256 : Nat) : Int)] := by rw [toU_append, hpt]; rfl
        refine ⟨⟨_, hT⟩, ⟨z, n + 1, ?_, by omega⟩, fun p hp => .inr hp⟩
        have hlen : (o ++ ptr a).length = o.length + 2 := by rw [hpt]; simp
        rw [hlen, hT]
        have hoL : (toU o).length = o.length := toU_length o
        refine .ptr (a := m) (by simp [hoL]) ?_ ?_ hlt (by omega) hze (hA.more _)
        · rw [List.getElem_append_right (by omega)]
          simp only [hoL, Nat.sub_self, List.getElem_cons_zero]
          exact u8_toNat _ (by omega)
        · rw [List.getElem_append_right (by omega)]
          simp only [hoL, Nat.add_sub_cancel_left, List.getElem_cons_succ, List.getElem_cons_zero]
          exact u8_toNat _ (by omega)
      · rw [e1, mk_size] at hb
        omega
    | none =>
      simp only []
      have hlen1 : (o ++ [(x.length : Int)] ++ bytesOf (mk x)).length = o.length + 1 + x.length := by simp only [List.length_append, List.length_cons, List.length_nil, bytesOf_length, mk_size]
      have hnl : nameL (x :: r) = flat (x :: r) := by unfold nameL; rw [if_neg (by simp)]
      have hT1 : toU (o ++ [(x.length : Int)] ++ bytesOf (mk x)) = toU o ++ (u8 (x.length : Int) :: x) := by rw [toU_append, toU_append, toU_bytes]; simp [toU]
      obtain ⟨⟨T, hT⟩, ⟨z, n, hA, hn⟩, hk2⟩ := ih (o ++ [(x.length : Int)] ++ bytesOf (mk x)) (kn ++ [(mk (nameL (x :: r)), (o.length : Int))]) (fun s h => hs s (List.mem_cons_of_mem _ h)) (by rw [hlen1]; omega) (by
        intro p hp
        rcases List.mem_append.1 hp with hp | hp
        · exact ho p hp
        · rw [List.mem_singleton] at hp
          subst hp
          simp only []
          omega) (by
        intro p hp
        rcases List.mem_append.1 hp with hp | hp
        · rcases hg p hp with h | h
          · rw [hT1]; exact .inl (h.more _)
          · rw [flat_cons] at h
            simp only [List.length_append, List.length_cons] at h
            exact .inr (by omega)
        · rw [List.mem_singleton] at hp
          subst hp
          right
          simp only []
          rw [mk_size, hnl, flat_cons]
          simp only [List.length_append, List.length_cons]
          omega)
      rw [hT1] at hT
      rw [hlen1] at hA
      have hoL : (toU o).length = o.length := toU_length o
      generalize (putP r (o ++ [(x.length : Int)] ++ bytesOf (mk x)) (kn ++ [(mk (nameL (x :: r)), (o.length : Int))])) = q at hT hA hk2 ⊢
      have hlab : At (toU q.1) o.length (x :: r) q.1.length z (n + 1) := by
        have hql : (toU q.1).length = o.length + (x.length + 1) + T.length := by rw [hT]; simp [hoL]; omega
        refine .lab (by omega) ?_ hx.2.1 hx.2.2 (by omega) ?_ hA
        · have e : (toU q.1)[o.length]? = some (u8 (x.length : Int)) := by
            rw [hT, List.append_assoc, List.getElem?_append_right (by omega), hoL]
            simp
          have e2 := (List.getElem?_eq_some_iff.1 e).2
          rw [e2]
          exact u8_toNat _ (by omega)
        · rw [hT, List.append_assoc, List.drop_append, List.drop_eq_nil_of_le (by omega), hoL]
          simp
      refine ⟨⟨_, by rw [hT, List.append_assoc]⟩, ⟨z, n + 1, hlab, by simp only [List.length_cons]; omega⟩, fun p hp => ?_⟩
      rcases hk2 p hp with h | h
      · exact .inl h
      · rcases List.mem_append.1 h with h | h
        · exact .inr h
        · rw [List.mem_singleton] at h
          subst h
          left
          exact ⟨x :: r, _, z, n + 1, hlab, by simp only []; omega, by simp, by simp only [hnl], fun s h => (hs s h).1, by simp only [List.length_cons]; omega⟩
end Go.Proofs.YtbcocpaeehgmnaaDoor.Pure
