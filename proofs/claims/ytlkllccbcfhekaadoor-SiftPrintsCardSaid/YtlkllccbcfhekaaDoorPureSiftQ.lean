/- A valid filter's text, by recursion: both texts of the program answer it. -/
import Derived.Test.YtlkllccbcfhekaaDoorPureSiftP
namespace Go.Proofs.YtlkllccbcfhekaaDoor.Sift
open Go.RowKit Go.Proofs.YtlkllccbcfhekaaDoorW.PrintWords
namespace Pure
set_option maxRecDepth 100000

def par (b : Bool) (t : ByteArray) : ByteArray := if b then ((⟨#[40]⟩ : ByteArray) ++ t) ++ (⟨#[41]⟩ : ByteArray) else t
def txt : Nat → S24 → Int → ByteArray
  | 0, _, _ => ⟨#[]⟩
  | n + 1, s, a =>
    if s.f0.toList = ([111, 114] : List UInt8) then par (decide (a > 0)) ((txt n (rd_T24 s.f4 0) 0 ++ (⟨#[32, 111, 114, 32]⟩ : ByteArray)) ++ txt n (rd_T24 s.f4 1) 1)
    else if s.f0.toList = ([97, 110, 100] : List UInt8) then par (decide (a > 1)) ((txt n (rd_T24 s.f4 0) 1 ++ (⟨#[32, 97, 110, 100, 32]⟩ : ByteArray)) ++ txt n (rd_T24 s.f4 1) 2)
    else if s.f0.toList = ([110, 111, 116] : List UInt8) then (⟨#[110, 111, 116, 32]⟩ : ByteArray) ++ txt n (rd_T24 s.f4 0) 2
    else if s.f0.toList = ([105, 110] : List UInt8) then (((s.f1 ++ (⟨#[32, 105, 110, 32]⟩ : ByteArray)) ++ adr s.f2) ++ (⟨#[47]⟩ : ByteArray)) ++ num s.f3
    else (((s.f1 ++ (⟨#[32]⟩ : ByteArray)) ++ s.f0) ++ (⟨#[32]⟩ : ByteArray)) ++ num s.f2
theorem par_size (b : Bool) (t : ByteArray) : (par b t).size ≤ t.size + 2 := by
  unfold par
  split
  · simp only [ByteArray.size_append, show (⟨#[40]⟩ : ByteArray).size = 1 from rfl, show (⟨#[41]⟩ : ByteArray).size = 1 from rfl]; omega
  · omega
theorem two_at {l : List S24} (h : l.length = 2) : rd_T24 l 0 ∈ l ∧ rd_T24 l 1 ∈ l ∧ l = [rd_T24 l 0, rd_T24 l 1] := by
  match l, h with
  | [a, b], _ => exact ⟨List.mem_cons_self, List.mem_cons_of_mem _ List.mem_cons_self, rfl⟩
theorem one_at {l : List S24} (h : l.length = 1) : rd_T24 l 0 ∈ l ∧ l = [rd_T24 l 0] := by
  match l, h with
  | [a], _ => exact ⟨List.mem_cons_self, rfl⟩
theorem size_of_toList (s : ByteArray) : s.toList.length = s.size := by simp [ByteArray.toList_eq]
theorem num_field {f : ByteArray} (h : isNum f = true) : f.size ≤ 6 := by
  unfold isNum at h
  obtain ⟨y, hy, he⟩ := List.any_eq_true.1 h
  have e : y.toList = f.toList := beq_iff_eq.1 he
  rw [← size_of_toList, ← e, size_of_toList]
  have hall : ∀ y ∈ numbersL, y.size ≤ 6 := by decide +kernel
  exact hall y hy
/-- What a valid term of each form says. -/
inductive Form (s : S24) : Prop
  | or (h : s.f0.toList = [111, 114]) (hl : s.f4.length = 2)
  | and (h : s.f0.toList = [97, 110, 100]) (hl : s.f4.length = 2)
  | not (h : s.f0.toList = [110, 111, 116]) (hl : s.f4.length = 1)
  | net (h : s.f0.toList = [105, 110]) (hf : s.f1.size = 3) (h0 : 0 ≤ s.f2) (h1 : s.f2 < 4294967296) (hn : netOk s.f2 s.f3 = true)
  | cmp (c : UInt8) (h : s.f0.toList = [c]) (hf : s.f1.size ≤ 6) (h0 : 0 ≤ s.f2) (h1 : s.f2 < 4294967296)
theorem form_of {s : S24} (h : shp s.f0 s.f1 s.f2 s.f3 s.f4 = true) : Form s := by
  unfold shp at h
  by_cases c1 : s.f0.toList = [97, 110, 100] ∨ s.f0.toList = [111, 114]
  · rw [if_pos c1] at h
    simp only [Bool.and_eq_true, decide_eq_true_eq] at h
    rcases c1 with c1 | c1
    · exact .and c1 h.1.1.1
    · exact .or c1 h.1.1.1
  rw [if_neg c1] at h
  by_cases c2 : s.f0.toList = [110, 111, 116]
  · rw [if_pos c2] at h
    simp only [Bool.and_eq_true, decide_eq_true_eq] at h
    exact .not c2 h.1.1.1
  rw [if_neg c2] at h
  by_cases c3 : s.f0.toList = [61] ∨ s.f0.toList = [60] ∨ s.f0.toList = [62]
  · rw [if_pos c3] at h
    simp only [Bool.and_eq_true, decide_eq_true_eq] at h
    obtain ⟨⟨⟨⟨_, h2⟩, h3⟩, h4⟩, _⟩ := h
    rcases c3 with c3 | c3 | c3 <;> exact .cmp _ c3 (num_field h2) h3 (by omega)
  rw [if_neg c3] at h
  by_cases c4 : s.f0.toList = [105, 110]
  · rw [if_pos c4] at h
    simp only [Bool.and_eq_true, Bool.or_eq_true, decide_eq_true_eq] at h
    obtain ⟨⟨⟨⟨_, h2⟩, h3⟩, h4⟩, h5⟩ := h
    refine .net c4 ?_ h3 h4 h5
    rw [← size_of_toList]
    rcases h2 with h2 | h2 <;> rw [h2] <;> rfl
  · rw [if_neg c4] at h
    cases h
theorem sum2 (n : Nat) {l : List S24} (h : l.length = 2) : (l.map (cnt n)).sum = cnt n (rd_T24 l 0) + cnt n (rd_T24 l 1) := by
  obtain ⟨_, _, e⟩ := two_at h
  have : (l.map (cnt n)) = [cnt n (rd_T24 l 0), cnt n (rd_T24 l 1)] := by
    conv => lhs; rw [e]
    rfl
  rw [this]; simp
theorem sum1 (n : Nat) {l : List S24} (h : l.length = 1) : (l.map (cnt n)).sum = cnt n (rd_T24 l 0) := by
  obtain ⟨_, e⟩ := one_at h
  have : (l.map (cnt n)) = [cnt n (rd_T24 l 0)] := by
    conv => lhs; rw [e]
    rfl
  rw [this]; simp
theorem net_b {v b : Int} (hn : netOk v b = true) : 0 ≤ b ∧ b ≤ 32 := by
  unfold netOk at hn
  rw [Bool.and_eq_true] at hn
  exact of_decide_eq_true hn.1
theorem kids_of {n : Nat} {s : S24} (hf : frm (n + 1) s = true) : Form s ∧ ∀ y ∈ s.f4, frm n y = true := by
  unfold frm at hf
  rw [Bool.and_eq_true] at hf
  exact ⟨form_of hf.1, fun y hy => List.all_eq_true.1 hf.2 y hy⟩
theorem txt_size : ∀ n s a, frm n s = true → (txt n s a).size ≤ 68719476736 * cnt n s
  | 0, _, _, h => by cases h
  | n + 1, s, a, hf => by
    obtain ⟨hs, hk⟩ := kids_of hf
    unfold txt cnt
    cases hs with
    | or h hl =>
      have k0 := txt_size n (rd_T24 s.f4 0) 0 (hk _ (two_at hl).1)
      have k1 := txt_size n (rd_T24 s.f4 1) 1 (hk _ (two_at hl).2.1)
      rw [if_pos h, sum2 n hl]
      have hp := par_size (decide (a > 0)) ((txt n (rd_T24 s.f4 0) 0 ++ (⟨#[32, 111, 114, 32]⟩ : ByteArray)) ++ txt n (rd_T24 s.f4 1) 1)
      simp only [ByteArray.size_append, show (⟨#[32, 111, 114, 32]⟩ : ByteArray).size = 4 from rfl] at hp
      omega
    | and h hl =>
      have k0 := txt_size n (rd_T24 s.f4 0) 1 (hk _ (two_at hl).1)
      have k1 := txt_size n (rd_T24 s.f4 1) 2 (hk _ (two_at hl).2.1)
      rw [if_neg (by rw [h]; decide), if_pos h, sum2 n hl]
      have hp := par_size (decide (a > 1)) ((txt n (rd_T24 s.f4 0) 1 ++ (⟨#[32, 97, 110, 100, 32]⟩ : ByteArray)) ++ txt n (rd_T24 s.f4 1) 2)
      simp only [ByteArray.size_append, show (⟨#[32, 97, 110, 100, 32]⟩ : ByteArray).size = 5 from rfl] at hp
      omega
    | not h hl =>
      have k0 := txt_size n (rd_T24 s.f4 0) 2 (hk _ (one_at hl).1)
      rw [if_neg (by rw [h]; decide), if_neg (by rw [h]; decide), if_pos h, sum1 n hl]
      simp only [ByteArray.size_append, show (⟨#[110, 111, 116, 32]⟩ : ByteArray).size = 4 from rfl]
      omega
    | net h hf h0 h1 hn =>
      have s1 := adr_size s.f2 h0 h1
      have s2 := num_size s.f3 (net_b hn).1 (by have := (net_b hn).2; omega)
      rw [if_neg (by rw [h]; decide), if_neg (by rw [h]; decide), if_neg (by rw [h]; decide), if_pos h]
      simp only [ByteArray.size_append, show (⟨#[32, 105, 110, 32]⟩ : ByteArray).size = 4 from rfl, show (⟨#[47]⟩ : ByteArray).size = 1 from rfl]
      omega
    | cmp c h hf h0 h1 =>
      have s1 := num_size s.f2 h0 h1
      have s0 : s.f0.size = 1 := by rw [← size_of_toList, h]; rfl
      rw [if_neg (by rw [h]; simp), if_neg (by rw [h]; simp), if_neg (by rw [h]; simp), if_neg (by rw [h]; simp)]
      simp only [ByteArray.size_append, show (⟨#[32]⟩ : ByteArray).size = 1 from rfl]
      omega
theorem string_up {k k' : Nat} (hk : k ≤ k') {a b : ByteArray} {x y : Int} {l : List S24} {m : Int} {r : ByteArray} (h : patchbayref4_SiftString.f k a b x y l m = some r) : patchbayref4_SiftString.f k' a b x y l m = some r :=
  up (f := fun k => patchbayref4_SiftString.f k a b x y l m) (fun k => patchbayref4_SiftString.mono _ _ _ _ _ _ k) hk h
theorem digits_up {k k' : Nat} (hk : k ≤ k') {x : Int} {r : ByteArray} (h : patchbayref4_Digits.f k x = some r) : patchbayref4_Digits.f k' x = some r :=
  up (f := fun k => patchbayref4_Digits.f k x) (fun k => patchbayref4_Digits.mono _ k) hk h
theorem tdiv_w {v d : Int} (h0 : 0 ≤ v) (h1 : v < 4294967296) (hd : 1 ≤ d) : wrap64 (Int.tdiv v d) = v / d := by
  have hq0 : 0 ≤ v / d := Int.ediv_nonneg h0 (by omega)
  have hq1 : v / d ≤ v := Int.ediv_le_self _ h0
  rw [Int.tdiv_eq_ediv_of_nonneg h0, w64 (by omega) (by omega)]
theorem string_is : ∀ n s, frm n s = true → cnt n s ≤ 300 → ∃ k, ∀ a, patchbayref4_SiftString.f k s.f0 s.f1 s.f2 s.f3 s.f4 a = some (txt n s a)
  | 0, _, h, _ => by cases h
  | n + 1, s, hf, hc => by
    obtain ⟨hs, hk⟩ := kids_of hf
    have hsz : ∀ a, (txt (n + 1) s a).size ≤ 68719476736 * 300 := fun a => Nat.le_trans (txt_size (n + 1) s a hf) (Nat.mul_le_mul_left _ hc)
    unfold cnt at hc
    cases hs with
    | or h hl =>
      rw [sum2 n hl] at hc
      obtain ⟨k0, e0⟩ := string_is n (rd_T24 s.f4 0) (hk _ (two_at hl).1) (by omega)
      obtain ⟨k1, e1⟩ := string_is n (rd_T24 s.f4 1) (hk _ (two_at hl).2.1) (by omega)
      have z0 := txt_size n (rd_T24 s.f4 0) 0 (hk _ (two_at hl).1)
      have z1 := txt_size n (rd_T24 s.f4 1) 1 (hk _ (two_at hl).2.1)
      refine ⟨max k0 k1 + 1, fun a => ?_⟩
      rw [patchbayref4_SiftString.f, if_pos h, if_pos (by omega), string_up (Nat.le_max_left k0 k1) (e0 0), Option.bind_some, if_pos (by omega), if_pos (by omega), string_up (Nat.le_max_right k0 k1) (e1 1), Option.bind_some, if_pos (by simp only [ByteArray.size_append, show (⟨#[32, 111, 114, 32]⟩ : ByteArray).size = 4 from rfl]; omega)]
      rw [txt, if_pos h]
      unfold par
      by_cases ha : a > 0
      · rw [if_pos ha, if_pos (decide_eq_true ha), if_pos (by simp only [ByteArray.size_append, show (⟨#[32, 111, 114, 32]⟩ : ByteArray).size = 4 from rfl]; omega), if_pos (by simp only [ByteArray.size_append, show (⟨#[32, 111, 114, 32]⟩ : ByteArray).size = 4 from rfl, show (⟨#[40]⟩ : ByteArray).size = 1 from rfl]; omega)]
      · rw [if_neg ha, if_neg (by simpa using ha)]
    | and h hl =>
      rw [sum2 n hl] at hc
      obtain ⟨k0, e0⟩ := string_is n (rd_T24 s.f4 0) (hk _ (two_at hl).1) (by omega)
      obtain ⟨k1, e1⟩ := string_is n (rd_T24 s.f4 1) (hk _ (two_at hl).2.1) (by omega)
      have z0 := txt_size n (rd_T24 s.f4 0) 1 (hk _ (two_at hl).1)
      have z1 := txt_size n (rd_T24 s.f4 1) 2 (hk _ (two_at hl).2.1)
      refine ⟨max k0 k1 + 1, fun a => ?_⟩
      rw [patchbayref4_SiftString.f, if_neg (by rw [h]; decide), if_pos h, if_pos (by omega), string_up (Nat.le_max_left k0 k1) (e0 1), Option.bind_some, if_pos (by omega), if_pos (by omega), string_up (Nat.le_max_right k0 k1) (e1 2), Option.bind_some, if_pos (by simp only [ByteArray.size_append, show (⟨#[32, 97, 110, 100, 32]⟩ : ByteArray).size = 5 from rfl]; omega)]
      have ht : txt (n + 1) s a = par (decide (a > 1)) ((txt n (rd_T24 s.f4 0) 1 ++ (⟨#[32, 97, 110, 100, 32]⟩ : ByteArray)) ++ txt n (rd_T24 s.f4 1) 2) := by rw [txt, if_neg (by rw [h]; decide), if_pos h]
      rw [ht]
      unfold par
      by_cases ha : a > 1
      · rw [if_pos ha, if_pos (decide_eq_true ha), if_pos (by simp only [ByteArray.size_append, show (⟨#[32, 97, 110, 100, 32]⟩ : ByteArray).size = 5 from rfl]; omega), if_pos (by simp only [ByteArray.size_append, show (⟨#[32, 97, 110, 100, 32]⟩ : ByteArray).size = 5 from rfl, show (⟨#[40]⟩ : ByteArray).size = 1 from rfl]; omega)]
      · rw [if_neg ha, if_neg (by simpa using ha)]
    | not h hl =>
      rw [sum1 n hl] at hc
      obtain ⟨k0, e0⟩ := string_is n (rd_T24 s.f4 0) (hk _ (one_at hl).1) (by omega)
      have z0 := txt_size n (rd_T24 s.f4 0) 2 (hk _ (one_at hl).1)
      refine ⟨k0 + 1, fun a => ?_⟩
      rw [patchbayref4_SiftString.f, if_neg (by rw [h]; decide), if_neg (by rw [h]; decide), if_pos h, if_pos (by omega), e0 2, Option.bind_some, if_pos (by omega)]
      rw [txt, if_neg (by rw [h]; decide), if_neg (by rw [h]; decide), if_pos h]
    | net h hf h0 h1 hn =>
      obtain ⟨q0, d0⟩ := digits_int (s.f2 / 16777216) (by omega) (by omega)
      obtain ⟨q1, d1⟩ := digits_int (s.f2 / 65536 % 256) (by omega) (by omega)
      obtain ⟨q2, d2⟩ := digits_int (s.f2 / 256 % 256) (by omega) (by omega)
      obtain ⟨q3, d3⟩ := digits_int (s.f2 % 256) (by omega) (by omega)
      obtain ⟨q4, d4⟩ := digits_int s.f3 (net_b hn).1 (by have := (net_b hn).2; omega)
      have s0 := num_size (s.f2 / 16777216) (by omega) (by omega)
      have s1 := num_size (s.f2 / 65536 % 256) (by omega) (by omega)
      have s2 := num_size (s.f2 / 256 % 256) (by omega) (by omega)
      have s3 := num_size (s.f2 % 256) (by omega) (by omega)
      have s4 := num_size s.f3 (net_b hn).1 (by have := (net_b hn).2; omega)
      obtain ⟨K, g0, g1, g2, g3, g4⟩ : ∃ K, q0 ≤ K ∧ q1 ≤ K ∧ q2 ≤ K ∧ q3 ≤ K ∧ q4 ≤ K := ⟨q0 + q1 + q2 + q3 + q4, by omega, by omega, by omega, by omega, by omega⟩
      refine ⟨K + 1, fun a => ?_⟩
      have t1 : Int.tmod (wrap64 (Int.tdiv s.f2 65536)) 256 = s.f2 / 65536 % 256 := by rw [tdiv_w h0 h1 (by decide), Int.tmod_eq_emod_of_nonneg (by omega)]
      have t2 : Int.tmod (wrap64 (Int.tdiv s.f2 256)) 256 = s.f2 / 256 % 256 := by rw [tdiv_w h0 h1 (by decide), Int.tmod_eq_emod_of_nonneg (by omega)]
      have t3 : Int.tmod s.f2 256 = s.f2 % 256 := by rw [Int.tmod_eq_emod_of_nonneg h0]
      have L1 : (⟨#[46]⟩ : ByteArray).size = 1 := rfl
      have L4 : (⟨#[32, 105, 110, 32]⟩ : ByteArray).size = 4 := rfl
      have L5 : (⟨#[47]⟩ : ByteArray).size = 1 := rfl
      rw [patchbayref4_SiftString.f, if_neg (by rw [h]; decide), if_neg (by rw [h]; decide), if_neg (by rw [h]; decide), if_pos h, tdiv_w h0 h1 (by decide), t1, t2, t3, digits_up g0 d0, Option.bind_some, if_pos (by omega),
        digits_up g1 d1, Option.bind_some, if_pos (by simp only [ByteArray.size_append, L1]; omega), if_pos (by simp only [ByteArray.size_append, L1]; omega),
        digits_up g2 d2, Option.bind_some, if_pos (by simp only [ByteArray.size_append, L1]; omega), if_pos (by simp only [ByteArray.size_append, L1]; omega),
        digits_up g3 d3, Option.bind_some, if_pos (by simp only [ByteArray.size_append, L1]; omega), if_pos (by omega), if_pos (by simp only [ByteArray.size_append, L1, L4]; omega), if_pos (by simp only [ByteArray.size_append, L1, L4]; omega),
        digits_up g4 d4, Option.bind_some, if_pos (by simp only [ByteArray.size_append, L1, L4, L5]; omega)]
      rw [txt, if_neg (by rw [h]; decide), if_neg (by rw [h]; decide), if_neg (by rw [h]; decide), if_pos h]
      rfl
    | cmp c h hf h0 h1 =>
      obtain ⟨q0, d0⟩ := digits_int s.f2 h0 h1
      have s1 := num_size s.f2 h0 h1
      have s0 : s.f0.size = 1 := by rw [← size_of_toList, h]; rfl
      have L1 : (⟨#[32]⟩ : ByteArray).size = 1 := rfl
      refine ⟨q0 + 1, fun a => ?_⟩
      rw [patchbayref4_SiftString.f, if_neg (by rw [h]; simp), if_neg (by rw [h]; simp), if_neg (by rw [h]; simp), if_neg (by rw [h]; simp), if_pos (by omega), if_pos (by simp only [ByteArray.size_append, L1]; omega), if_pos (by simp only [ByteArray.size_append, L1]; omega), d0, Option.bind_some, if_pos (by simp only [ByteArray.size_append, L1]; omega)]
      rw [txt, if_neg (by rw [h]; simp), if_neg (by rw [h]; simp), if_neg (by rw [h]; simp), if_neg (by rw [h]; simp)]
end Pure
end Go.Proofs.YtlkllccbcfhekaaDoor.Sift
