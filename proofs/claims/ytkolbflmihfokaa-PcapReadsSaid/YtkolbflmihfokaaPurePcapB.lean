/- The pure laws of captures, part B: numbers in bytes, and records, are the same in both texts. -/
import Derived.Test.YtkolbflmihfokaaPurePcapA
import Derived.Test.YtkolbflmihfokaaPcapx3
namespace Go.Proofs.Ytkolbflmihfokaa.Pure
open Go.RowKit Go.Proofs.Ytkolbflmihfokaa.Pcap Go.Proofs.YtkolbflmihfokaaW.PrintWords Go.Proofs.YtkolbflmihfokaaW.PrintLast

theorem w64 {x : Int} (h1 : -9223372036854775808 ≤ x) (h2 : x ≤ 9223372036854775807) : wrap64 x = x := by
  unfold wrap64
  omega

theorem strOfNums_append (a b : List Int) : strOfNums a ++ strOfNums b = strOfNums (a ++ b) := by
  apply ByteArray.ext
  simp [strOfNums, ByteArray.data_append]
theorem strOfNums_size (a : List Int) : (strOfNums a).size = a.length := by
  show (strOfNums a).data.size = _
  simp [strOfNums]
theorem strOfNums_nil : (⟨#[]⟩ : ByteArray) = strOfNums [] := by
  apply ByteArray.ext
  simp [strOfNums]
theorem strOfNums_bytes (s : ByteArray) : strOfNums (bytesOf s) = s := by
  apply ByteArray.ext
  simp only [strOfNums, bytesOf, List.map_map]
  apply Array.ext'
  simp only
  have e : ((fun n : Int => UInt8.ofNat n.toNat) ∘ fun b : UInt8 => (b.toNat : Int)) = id := by
    funext b
    simp
  rw [e, List.map_id]

def n2 (n : Int) : ByteArray := strOfNums [n / 256 % 256, n % 256]
def n4 (n : Int) : ByteArray := strOfNums [n / 16777216 % 256, n / 65536 % 256, n / 256 % 256, n % 256]
theorem n2_size (n : Int) : (n2 n).size = 2 := strOfNums_size _
theorem n4_size (n : Int) : (n4 n).size = 4 := strOfNums_size _

theorem number2 (k : Nat) (hk : 3 ≤ k) (n : Int) : pcap_number.f k n 2 = some (n2 n) := by
  obtain ⟨k, rfl⟩ : ∃ m, k = m + 1 + 1 + 1 := ⟨k - 3, by omega⟩
  unfold pcap_number.f
  rw [if_pos (by decide), if_pos (by decide)]
  have w1 : wrap64 (2 - 1) = 1 := by unfold wrap64; omega
  have w2 : wrap64 (1 - 1) = 0 := by unfold wrap64; omega
  have w3 : wrap64 (0 - 1) = -1 := by unfold wrap64; omega
  rw [w1]
  simp only [pcap_number.l0]
  rw [w2, w3]
  simp [List.replicate, n2]
theorem number4 (k : Nat) (hk : 5 ≤ k) (n : Int) : pcap_number.f k n 4 = some (n4 n) := by
  obtain ⟨k, rfl⟩ : ∃ m, k = m + 1 + 1 + 1 + 1 + 1 := ⟨k - 5, by omega⟩
  unfold pcap_number.f
  rw [if_pos (by decide), if_pos (by decide)]
  have w1 : wrap64 (4 - 1) = 3 := by unfold wrap64; omega
  have w2 : wrap64 (3 - 1) = 2 := by unfold wrap64; omega
  have w3 : wrap64 (2 - 1) = 1 := by unfold wrap64; omega
  have w4 : wrap64 (1 - 1) = 0 := by unfold wrap64; omega
  have w5 : wrap64 (0 - 1) = -1 := by unfold wrap64; omega
  rw [w1]
  simp only [pcap_number.l0]
  rw [w2, w3, w4, w5]
  have e1 : n / 256 / 256 = n / 65536 := by omega
  have e2 : n / 65536 / 256 = n / 16777216 := by omega
  simp [List.replicate, n4, e1, e2]

theorem big_step (k : Nat) (n m : Int) (h0 : 0 ≤ n) (h1 : n ≤ 9223372036854775807) (hm : 1 ≤ m) (hm2 : m ≤ 100) (l : List Int) (hl : l.length ≤ 100) (h : patchbayref4_Big.f k (n / 256) (m - 1) = some (strOfNums l)) : patchbayref4_Big.f (k + 1) n m = some (strOfNums (l ++ [n % 256])) := by
  simp only [patchbayref4_Big.f]
  have hw : wrap64 (Int.tdiv n 256) = n / 256 := by
    rw [Int.tdiv_eq_ediv_of_nonneg h0]
    unfold wrap64
    omega
  have hw2 : wrap64 (m - 1) = m - 1 := by unfold wrap64; omega
  rw [if_neg (by omega), hw, hw2, h]
  simp only [Option.bind_some]
  rw [if_pos (by rw [strOfNums_size, strOfNums_size]; simp; omega), Int.tmod_eq_emod_of_nonneg h0, strOfNums_append, show n % 256 % 256 = n % 256 by omega]
theorem big_zero (k : Nat) (n : Int) : patchbayref4_Big.f (k + 1) n 0 = some (strOfNums []) := by
  simp only [patchbayref4_Big.f, if_true, strOfNums_nil]
theorem big2 (k : Nat) (hk : 3 ≤ k) (n : Int) (h0 : 0 ≤ n) (h1 : n ≤ 9223372036854775807) : patchbayref4_Big.f k n 2 = some (n2 n) := by
  obtain ⟨k, rfl⟩ : ∃ m, k = m + 1 + 1 + 1 := ⟨k - 3, by omega⟩
  refine big_step _ n 2 h0 h1 (by decide) (by decide) _ (by simp) (big_step _ (n / 256) (2 - 1) (by omega) (by omega) (by decide) (by decide) [] (by simp) ?_)
  exact big_zero _ _
theorem big4 (k : Nat) (hk : 5 ≤ k) (n : Int) (h0 : 0 ≤ n) (h1 : n ≤ 9223372036854775807) : patchbayref4_Big.f k n 4 = some (n4 n) := by
  obtain ⟨k, rfl⟩ : ∃ m, k = m + 1 + 1 + 1 + 1 + 1 := ⟨k - 5, by omega⟩
  have e1 : n / 256 / 256 = n / 65536 := by omega
  have e2 : n / 65536 / 256 = n / 16777216 := by omega
  have h := big_step (k + 1 + 1 + 1 + 1) n 4 h0 h1 (by decide) (by decide) _ (by simp) (big_step _ (n / 256) (4 - 1) (by omega) (by omega) (by decide) (by decide) _ (by simp) (big_step _ (n / 256 / 256) (4 - 1 - 1) (by omega) (by omega) (by decide) (by decide) _ (by simp)
    (big_step _ (n / 256 / 256 / 256) (4 - 1 - 1 - 1) (by omega) (by omega) (by decide) (by decide) [] (by simp) (big_zero k _))))
  rw [h, e1, e2]
  rfl

/-- A record's bytes. -/
def recHead (dt wh : Int) (b : ByteArray) : ByteArray := n4 dt ++ n2 wh ++ n2 (b.size : Int) ++ b
def recB (dt wh : Int) (b : ByteArray) : ByteArray := recHead dt wh b ++ n4 ((crcOf (recHead dt wh b) : Nat) : Int)
theorem recHead_size (dt wh : Int) (b : ByteArray) : (recHead dt wh b).size = b.size + 8 := by
  unfold recHead
  simp only [ByteArray.size_append, n2_size, n4_size]
  omega
theorem recB_size (dt wh : Int) (b : ByteArray) : (recB dt wh b).size = b.size + 12 := by
  unfold recB
  rw [ByteArray.size_append, recHead_size, n4_size]
def whereOf (node port : Int) (out : Bool) : Int := 16 * node + 2 * port + if out = true then 1 else 0

theorem or_where (node port : Int) (h0 : 0 ≤ node) (h1 : node ≤ 1000000) (p0 : 0 ≤ port) (p1 : port ≤ 7) : Go.bits .or .i64 (wrap64 (node * 16)) (wrap64 (port * 2)) = 16 * node + 2 * port := by
  have e1 : wrap64 (node * 16) = node * 16 := by unfold wrap64; omega
  have e2 : wrap64 (port * 2) = port * 2 := by unfold wrap64; omega
  rw [e1, e2, bits_join .i64 62 (by decide) (fun n a b => by rw [IntKind.wrap_i64]; omega) 4 (node * 16) (port * 2) (by omega) (by omega) (by omega) (by omega) (by omega) (by omega)]
  omega

theorem record_j0 (k : Nat) (hk : 6 ≤ k) (last wh t a1 a2 : Int) (out : Bool) (b : ByteArray) (hb : b.size ≤ 1000000) (ht : -9223372036854775808 ≤ t - last ∧ t - last ≤ 9223372036854775807) : pcap_record.j0 k last wh t a1 a2 out b = some (recB (t - last) wh b) := by
  obtain ⟨k, rfl⟩ : ∃ m, k = m + 1 := ⟨k - 1, by omega⟩
  simp only [pcap_record.j0]
  have hw : wrap64 (t - last) = t - last := by unfold wrap64; omega
  rw [hw, number4 k (by omega), number2 k (by omega), number2 k (by omega)]
  simp only [Option.bind_some, ByteArray.size_append, n2_size, n4_size]
  rw [if_pos (by decide), if_pos (by decide), if_pos (by omega)]
  have hh : n4 (t - last) ++ n2 wh ++ n2 (b.size : Int) ++ b = recHead (t - last) wh b := rfl
  rw [hh, crc_sum _ (by rw [recHead_size]; omega)]
  simp only [Option.bind_some]
  have hc := crcOf_lt (recHead (t - last) wh b)
  have hw2 : wrap64 ((crcOf (recHead (t - last) wh b) : Nat) : Int) = ((crcOf (recHead (t - last) wh b) : Nat) : Int) := by unfold wrap64; omega
  rw [hw2, number4 k (by omega)]
  simp only [Option.bind_some, n4_size]
  rw [if_pos (by omega)]
  rfl

theorem record_f (k : Nat) (hk : 6 ≤ k) (t node port last : Int) (out : Bool) (b : ByteArray) (hb : b.size ≤ 1000000) (ht : -9223372036854775808 ≤ t - last ∧ t - last ≤ 9223372036854775807) (h0 : 0 ≤ node) (h1 : node ≤ 1000000) (p0 : 0 ≤ port) (p1 : port ≤ 7) :
    pcap_record.f k t node port out b last = some (recB (t - last) (whereOf node port out) b) := by
  unfold pcap_record.f whereOf
  rw [or_where node port h0 h1 p0 p1]
  cases out with
  | true =>
    have hw : wrap64 (16 * node + 2 * port + 1) = 16 * node + 2 * port + 1 := by unfold wrap64; omega
    rw [if_pos rfl, hw, record_j0 k hk _ _ _ _ _ _ _ hb ht, if_pos rfl]
  | false => rw [if_neg (by decide), record_j0 k hk _ _ _ _ _ _ _ hb ht, if_neg (by decide), Int.add_zero]

theorem text_j0 (k : Nat) (last wh t a1 a2 : Int) (out : Bool) (b : ByteArray) (hk : 10 * b.size + 100 ≤ k) (hb : b.size ≤ 1000000) (ht : 0 ≤ t - last ∧ t - last ≤ 9223372036854775807) (hw0 : 0 ≤ wh) (hw1 : wh ≤ 9223372036854775807) : patchbayref4_RecordText.j0 k last wh t a1 a2 out b = some (recB (t - last) wh b) := by
  obtain ⟨k, rfl⟩ : ∃ m, k = m + 1 := ⟨k - 1, by omega⟩
  simp only [patchbayref4_RecordText.j0]
  have hw : wrap64 (t - last) = t - last := by unfold wrap64; omega
  rw [hw, big4 k (by omega) _ ht.1 ht.2, big2 k (by omega) _ hw0 hw1, big2 k (by omega) _ (by omega) (by omega)]
  simp only [Option.bind_some, ByteArray.size_append, n2_size, n4_size]
  rw [if_pos (by decide), if_pos (by decide), if_pos (by omega)]
  have hh : n4 (t - last) ++ n2 wh ++ n2 (b.size : Int) ++ b = recHead (t - last) wh b := rfl
  rw [hh, crc_ref _ (by rw [recHead_size]; omega) k (by rw [recHead_size]; omega)]
  simp only [Option.bind_some]
  have hc := crcOf_lt (recHead (t - last) wh b)
  rw [big4 k (by omega) _ (by omega) (by omega)]
  simp only [Option.bind_some, n4_size]
  rw [if_pos (by omega)]
  rfl

theorem text_f (k : Nat) (t node port last : Int) (out : Bool) (b : ByteArray) (hk : 10 * b.size + 100 ≤ k) (hb : b.size ≤ 1000000) (ht : 0 ≤ t - last ∧ t - last ≤ 9223372036854775807) (h0 : 0 ≤ node) (h1 : node ≤ 1000000) (p0 : 0 ≤ port) (p1 : port ≤ 7) :
    patchbayref4_RecordText.f k t node port out b last = some (recB (t - last) (whereOf node port out) b) := by
  unfold patchbayref4_RecordText.f whereOf
  have e1 : wrap64 (16 * node) = 16 * node := by unfold wrap64; omega
  have e2 : wrap64 (2 * port) = 2 * port := by unfold wrap64; omega
  have e3 : wrap64 (16 * node + 2 * port) = 16 * node + 2 * port := by unfold wrap64; omega
  rw [e1, e2, e3]
  cases out with
  | true =>
    have hw : wrap64 (16 * node + 2 * port + 1) = 16 * node + 2 * port + 1 := by unfold wrap64; omega
    rw [if_pos rfl, hw, text_j0 k _ _ _ _ _ _ _ hk hb ht (by omega) (by omega), if_pos rfl]
  | false => rw [if_neg (by decide), text_j0 k _ _ _ _ _ _ _ hk hb ht (by omega) (by omega), if_neg (by decide), Int.add_zero]

end Go.Proofs.Ytkolbflmihfokaa.Pure
