/- The pure law of ZoneSorts: the sorted records, each once, are the reference's. -/
import Derived.Test.YtbcocpaeehgmnaaDoorPureZoneC
import Derived.Test.YtbcocpaeehgmnaaDoorZoneT68
import Derived.Test.YtbcocpaeehgmnaaDoorZoneV
namespace Go.Proofs.YtbcocpaeehgmnaaDoor.Pure
open Go.RowKit Go.Proofs.YtbcocpaeehgmnaaDoor.Zone Go.Proofs.YtbcocpaeehgmnaaDoor.Runes Go.Proofs.YtbcocpaeehgmnaaDoorW.PrintWords Go.Proofs.YtbcocpaeehgmnaaDoorW.PrintLast Go.Proofs.YtbcocpaeehgmnaaDoorW.Sort

/-! ### comparisons in three ways -/
structure Way {α : Type} (c : α → α → Int) : Prop where
  neg : ∀ x y, c y x = - c x y
  eq : ∀ x y, c x y = 0 → x = y
  trans : ∀ x y z, c x y < 0 → c y z < 0 → c x z < 0
theorem Way.zero {α : Type} {c : α → α → Int} (h : Way c) (x : α) : c x x = 0 := by have := h.neg x x; omega
def lex2 {α β : Type} (c : α → α → Int) (d : β → β → Int) : α × β → α × β → Int := fun x y => if c x.1 y.1 = 0 then d x.2 y.2 else c x.1 y.1
theorem Way.pair {α β : Type} {c : α → α → Int} {d : β → β → Int} (hc : Way c) (hd : Way d) : Way (lex2 c d) := by
  refine ⟨fun x y => ?_, fun x y h => ?_, fun x y z h1 h2 => ?_⟩
  · unfold lex2
    have h := hc.neg x.1 y.1
    by_cases e : c x.1 y.1 = 0
    · rw [if_pos e, if_pos (by omega)]
      exact hd.neg _ _
    · rw [if_neg e, if_neg (by omega)]
      exact h
  · unfold lex2 at h
    by_cases e : c x.1 y.1 = 0
    · rw [if_pos e] at h
      exact Prod.ext (hc.eq _ _ e) (hd.eq _ _ h)
    · rw [if_neg e] at h
      exact absurd h e
  · obtain ⟨x1, x2⟩ := x
    obtain ⟨y1, y2⟩ := y
    obtain ⟨z1, z2⟩ := z
    simp only [lex2] at h1 h2 ⊢
    by_cases e1 : c x1 y1 = 0
    · obtain rfl := hc.eq _ _ e1
      rw [if_pos e1] at h1
      by_cases e2 : c x1 z1 = 0
      · rw [if_pos e2] at h2 ⊢
        exact hd.trans _ _ _ h1 h2
      · rw [if_neg e2] at h2 ⊢
        exact h2
    · rw [if_neg e1] at h1
      by_cases e2 : c y1 z1 = 0
      · obtain rfl := hc.eq _ _ e2
        rw [if_neg e1]
        exact h1
      · rw [if_neg e2] at h2
        have h3 := hc.trans _ _ _ h1 h2
        rw [if_neg (by omega)]
        exact h3
theorem bless_cons (x y : UInt8) (a b : List UInt8) : Op.bytesLess (x :: a) (y :: b) = if x < y then true else if y < x then false else Op.bytesLess a b := by
  simp only [Op.bytesLess]
  by_cases h1 : x < y
  · simp [h1]
  · by_cases h2 : y < x
    · have : x ≠ y := fun e => by rw [e] at h2; exact UInt8.lt_irrefl _ h2
      simp [h1, h2, this]
    · have e : x = y := UInt8.le_antisymm (UInt8.not_lt.1 h2) (UInt8.not_lt.1 h1)
      subst e
      simp [h1]
theorem bless_irr : ∀ a : List UInt8, Op.bytesLess a a = false
  | [] => rfl
  | x :: a => by simp [bless_cons, bless_irr a]
theorem bless_asymm : ∀ a b : List UInt8, Op.bytesLess a b = true → Op.bytesLess b a = false
  | [], [], h => by cases h
  | [], _ :: _, _ => rfl
  | _ :: _, [], h => by cases h
  | x :: a, y :: b, h => by
    simp only [bless_cons] at h ⊢
    by_cases h1 : x < y
    · have h2 : ¬ y < x := UInt8.lt_asymm h1
      simp [h1, h2]
    · by_cases h2 : y < x
      · simp [h1, h2] at h
      · simp only [h1, h2, if_false] at h ⊢
        exact bless_asymm a b h
theorem bless_eq : ∀ a b : List UInt8, Op.bytesLess a b = false → Op.bytesLess b a = false → a = b
  | [], [], _, _ => rfl
  | [], _ :: _, h, _ => by cases h
  | _ :: _, [], _, h => by cases h
  | x :: a, y :: b, h, h' => by
    simp only [bless_cons] at h h'
    by_cases h1 : x < y
    · simp [h1] at h
    · by_cases h2 : y < x
      · simp [h2] at h'
      · simp only [h1, h2, if_false] at h h'
        have e : x = y := UInt8.le_antisymm (UInt8.not_lt.1 h2) (UInt8.not_lt.1 h1)
        rw [e, bless_eq a b h h']
theorem bless_trans : ∀ a b c : List UInt8, Op.bytesLess a b = true → Op.bytesLess b c = true → Op.bytesLess a c = true
  | [], [], _, h, _ => by cases h
  | _ :: _, [], _, h, _ => by cases h
  | _, _ :: _, [], _, h => by cases h
  | [], _ :: _, _ :: _, _, _ => rfl
  | x :: a, y :: b, z :: c, h, h' => by
    simp only [bless_cons] at h h' ⊢
    by_cases h1 : x < y
    · by_cases h2 : y < z
      · simp [UInt8.lt_trans h1 h2]
      · by_cases h3 : z < y
        · simp [h2, h3] at h'
        · have e : y = z := UInt8.le_antisymm (UInt8.not_lt.1 h3) (UInt8.not_lt.1 h2)
          subst e
          simp [h1]
    · by_cases h2 : y < x
      · simp [h1, h2] at h
      · have e : x = y := UInt8.le_antisymm (UInt8.not_lt.1 h2) (UInt8.not_lt.1 h1)
        subst e
        simp only [h1, if_false] at h
        by_cases h3 : x < z
        · simp [h3]
        · by_cases h4 : z < x
          · simp [h3, h4] at h'
          · simp only [h3, h4, if_false] at h' ⊢
            exact bless_trans a b c h h'
theorem toList_inj {a b : ByteArray} (h : a.toList = b.toList) : a = b := by
  rw [← mk_of a, ← mk_of b]
  have e : ∀ x : ByteArray, x.toList = x.data.toList := fun x => by
    have := mk_toList x.data.toList
    rwa [mk_of] at this
  rw [e, e] at h
  rw [h]
theorem way_bytes : Way cmpB := by
  refine ⟨fun x y => ?_, fun x y h => ?_, fun x y z h1 h2 => ?_⟩
  · unfold cmpB
    by_cases h1 : Op.bytesLess x.toList y.toList = true
    · rw [if_pos h1, if_neg (by rw [bless_asymm _ _ h1]; decide), if_pos h1]
      decide
    · by_cases h2 : Op.bytesLess y.toList x.toList = true
      · simp only [h1, h2, if_true]
        decide
      · simp only [h1, h2]
        decide
  · unfold cmpB at h
    by_cases h1 : Op.bytesLess x.toList y.toList = true
    · rw [if_pos h1] at h; cases h
    · rw [if_neg h1] at h
      by_cases h2 : Op.bytesLess y.toList x.toList = true
      · rw [if_pos h2] at h; cases h
      · exact toList_inj (bless_eq _ _ (by simpa using h1) (by simpa using h2))
  · have key : ∀ a b : ByteArray, cmpB a b < 0 → Op.bytesLess a.toList b.toList = true := by
      intro a b h
      unfold cmpB at h
      by_cases h1 : Op.bytesLess a.toList b.toList = true
      · exact h1
      · rw [if_neg h1] at h
        split at h <;> omega
    have h3 := bless_trans _ _ _ (key _ _ h1) (key _ _ h2)
    unfold cmpB
    rw [if_pos h3]
    decide
theorem way_lists : Way cmpL := by
  refine ⟨fun x => ?_, fun x => ?_, fun x => ?_⟩
  · induction x with
    | nil => intro y; cases y <;> simp [cmpL]
    | cons a x ih =>
      intro y
      cases y with
      | nil => simp [cmpL]
      | cons b y =>
        simp only [cmpL]
        have h := way_bytes.neg a b
        by_cases e : cmpB a b = 0
        · rw [if_pos e, if_pos (by omega)]
          exact ih y
        · rw [if_neg e, if_neg (by omega)]
          exact h
  · induction x with
    | nil => intro y h; cases y with
      | nil => rfl
      | cons b y => simp [cmpL] at h
    | cons a x ih =>
      intro y h
      cases y with
      | nil => simp [cmpL] at h
      | cons b y =>
        simp only [cmpL] at h
        by_cases e : cmpB a b = 0
        · rw [if_pos e] at h
          rw [way_bytes.eq _ _ e, ih y h]
        · rw [if_neg e] at h
          exact absurd h e
  · induction x with
    | nil =>
      intro y z h1 h2
      cases z with
      | nil => cases y <;> simp [cmpL] at h1 h2
      | cons c z => simp [cmpL]
    | cons a x ih =>
      intro y z h1 h2
      cases y with
      | nil => simp [cmpL] at h1
      | cons b y =>
        cases z with
        | nil => simp [cmpL] at h2
        | cons c z =>
          simp only [cmpL] at h1 h2 ⊢
          by_cases e1 : cmpB a b = 0
          · obtain rfl := way_bytes.eq _ _ e1
            rw [if_pos e1] at h1
            by_cases e2 : cmpB a c = 0
            · rw [if_pos e2] at h2 ⊢
              exact ih y z h1 h2
            · rw [if_neg e2] at h2 ⊢
              exact h2
          · rw [if_neg e1] at h1
            by_cases e2 : cmpB b c = 0
            · obtain rfl := way_bytes.eq _ _ e2
              rw [if_neg e1]
              exact h1
            · rw [if_neg e2] at h2
              have h3 := way_bytes.trans _ _ _ h1 h2
              rw [if_neg (by omega)]
              exact h3
def cmpI (a b : Int) : Int := if a < b then -1 else if a > b then 1 else 0
theorem way_ints : Way cmpI := by
  refine ⟨fun x y => ?_, fun x y h => ?_, fun x y z h1 h2 => ?_⟩
  · unfold cmpI; split <;> split <;> first | omega | (split <;> omega)
  · unfold cmpI at h; split at h <;> first | omega | (split at h <;> omega)
  · unfold cmpI at h1 h2 ⊢
    split at h1 <;> split at h2 <;> split <;> first | omega | (split at h1 <;> omega) | (split at h2 <;> omega)

/-! ### the order of records -/
def lab (s : ByteArray) : List (List UInt8) × Int := labelsL s.data.toList
def key (x : S68) : List ByteArray × Int × ByteArray := (((lab x.f0).1.map mk).reverse, x.f1, x.f3)
def ord (x y : S68) : Int := lex2 cmpL (lex2 cmpI cmpB) (key x) (key y)
theorem way_key : Way (lex2 cmpL (lex2 cmpI cmpB)) := way_lists.pair (way_ints.pair way_bytes)
def lt (x y : S68) : Bool := decide (ord x y < 0)
theorem ordr : Ord_ lt := by
  refine ⟨fun {x y} h => ?_, fun {x y w} h h' => ?_⟩
  · simp only [lt, decide_eq_true_eq, decide_eq_false_iff_not] at h ⊢
    have := way_key.neg (key x) (key y)
    unfold ord at h ⊢
    omega
  · simp only [lt, decide_eq_false_iff_not] at h h' ⊢
    unfold ord at h h' ⊢
    intro hc
    have n1 := way_key.neg (key x) (key y)
    by_cases e : lex2 cmpL (lex2 cmpI cmpB) (key x) (key y) = 0
    · rw [way_key.eq _ _ e] at hc
      omega
    · exact h' (way_key.trans _ _ _ (by omega) hc)
theorem eqv_iff (x y : S68) : eqv lt x y = true ↔ ord x y = 0 := by
  have := way_key.neg (key x) (key y)
  simp only [eqv, lt, Bool.and_eq_true, Bool.not_eq_true', decide_eq_false_iff_not]
  unfold ord
  omega

/-- A record with a valid name. -/
def okR (x : S68) : Prop := (lab x.f0).2 = 0
theorem small_labels (s : ByteArray) : ((lab s).1.map mk).length ≤ 8 := by rw [List.length_map]; exact labels_few _
theorem check_ev (s : ByteArray) : Ev (fun k => label_Check.f k s) (lab s).2 := ⟨200, fun k hk => by have := check_at s.data.toList k hk; rwa [mk_of] at this⟩
theorem labelsOf_ev (s : ByteArray) : Ev (fun k => patchbayref4_LabelsOf.f k s) ((lab s).1.map mk, (lab s).2) := ⟨300, fun k hk => by have := ref_at s.data.toList k hk; rwa [mk_of] at this⟩
theorem or_at (a b c : Int) (k : Nat) (hk : 5 ≤ k) : cmp_Or_int.f k [a, b, c] = some (if a = 0 then (if b = 0 then c else b) else a) := by
  obtain ⟨k, rfl⟩ : ∃ m, k = m + 1 + 1 + 1 + 1 + 1 := ⟨k - 5, by omega⟩
  unfold cmp_Or_int.f
  have hl : (([a, b, c] : List Int).length : Int) = 3 := rfl
  have w1 : wrap64 (0 + 1) = 1 := by unfold wrap64; omega
  have w2 : wrap64 (1 + 1) = 2 := by unfold wrap64; omega
  have w3 : wrap64 (2 + 1) = 3 := by unfold wrap64; omega
  have r0 : rd [a, b, c] 0 = a := rfl
  have r1 : rd [a, b, c] 1 = b := rfl
  have r2 : rd [a, b, c] 2 = c := rfl
  rw [hl, cmp_Or_int.l0.eq_2, if_pos (by decide), if_pos (by decide), if_pos (by rw [hl]; decide), r0, w1]
  by_cases c0 : a = 0
  · rw [if_pos c0, if_pos c0, cmp_Or_int.l0.eq_2, if_pos (by decide), if_pos (by decide), if_pos (by rw [hl]; decide), r1, w2]
    by_cases c1 : b = 0
    · rw [if_pos c1, if_pos c1, cmp_Or_int.l0.eq_2, if_pos (by decide), if_pos (by decide), if_pos (by rw [hl]; decide), r2, w3]
      by_cases c2 : c = 0
      · rw [if_pos c2, cmp_Or_int.l0.eq_2, if_neg (by decide), c2]
      · rw [if_neg c2]
    · rw [if_neg c1, if_neg c1]
  · rw [if_neg c0, if_neg c0]
theorem cmpI_at (a b : Int) : cmp_Compare_int.f a b = some (cmpI a b) := by
  have h : ∀ a : Int, cmp_isNaN_int.f a = some false := fun a => by unfold cmp_isNaN_int.f; simp
  unfold cmp_Compare_int.f cmpI
  rw [h, h, Option.bind_some, Option.bind_some, if_neg Bool.false_ne_true, if_neg Bool.false_ne_true]
  by_cases c1 : a < b
  · rw [if_pos c1, if_pos c1]
  · rw [if_neg c1, if_neg c1]
    by_cases c2 : a > b
    · rw [if_pos c2, if_pos c2]
    · rw [if_neg c2, if_neg c2]
theorem order_ev (x y : S68) (hx : okR x) (hy : okR y) : Ev (fun k => zone_order.f k x.f0 x.f1 x.f2 x.f3 y.f0 y.f1 y.f2 y.f3) (ord x y) := by
  refine ⟨205, fun k hk => ?_⟩
  have h := compare_at x.f0.data.toList y.f0.data.toList k (by omega)
  rw [mk_of, mk_of] at h
  show zone_order.f k _ _ _ _ _ _ _ _ = _
  unfold zone_order.f
  rw [h, if_pos (show (labelsL x.f0.data.toList).2 = 0 from hx), if_pos (show (labelsL y.f0.data.toList).2 = 0 from hy), Option.bind_some, cmpI_at, Option.bind_some, cmp_at, Option.bind_some, or_at _ _ _ k (by omega), Option.bind_some]
  unfold ord lex2 key lab
  rfl
theorem nameOrder_ev (a b : ByteArray) : Ev (fun k => patchbayref4_NameOrder.f k a b) (cmpL ((lab a).1.map mk).reverse ((lab b).1.map mk).reverse) := by
  refine Ev.bind (f := fun k bt => (patchbayref4_LabelsOf.f k b).bind fun bt2 => patchbayref4_NameOrder.l0 k bt.1 bt2.1 0) (labelsOf_ev a) (Ev.bind (f := fun k bt2 => patchbayref4_NameOrder.l0 k ((lab a).1.map mk) bt2.1 0) (labelsOf_ev b) ⟨30, fun k hk => ?_⟩)
  have h1 := small_labels a
  have h2 := small_labels b
  have h := order_runs ((lab a).1.map mk) ((lab b).1.map mk) (by omega) (by omega) ((lab a).1.map mk).length 0 k (by omega) (by omega) (by omega)
  rw [List.drop_zero, List.drop_zero] at h
  exact h
theorem recordOrder_ev (x y : S68) : Ev (fun k => patchbayref4_RecordOrder.f k x.f0 x.f1 x.f2 x.f3 y.f0 y.f1 y.f2 y.f3) (ord x y) := by
  refine Ev.bind (f := fun k t => if t = 0 then (if x.f1 = y.f1 then (patchbayref4_RecordOrder.j0 k false x.f0 x.f1 x.f2 x.f3 y.f0 y.f1 y.f2 y.f3) else (patchbayref4_RecordOrder.j0 k (decide (x.f1 < y.f1)) x.f0 x.f1 x.f2 x.f3 y.f0 y.f1 y.f2 y.f3)) else (some t)) (nameOrder_ev x.f0 y.f0) ⟨2, fun k hk => ?_⟩
  obtain ⟨k, rfl⟩ : ∃ m, k = m + 1 + 1 := ⟨k - 2, by omega⟩
  show (if _ then _ else _) = some (ord x y)
  unfold ord lex2 key
  simp only []
  by_cases c0 : cmpL ((lab x.f0).1.map mk).reverse ((lab y.f0).1.map mk).reverse = 0
  · rw [if_pos c0, if_pos c0]
    by_cases c1 : x.f1 = y.f1
    · have e1 : cmpI x.f1 y.f1 = 0 := by rw [c1]; exact way_ints.zero _
      rw [if_pos c1, if_pos e1, patchbayref4_RecordOrder.j0.eq_2, if_neg (by simp), if_pos c1, patchbayref4_RecordOrder.j1.eq_2]
      unfold cmpB
      by_cases c2 : Op.bytesLess x.f3.toList y.f3.toList = true
      · rw [if_pos c2, if_pos c2]
      · rw [if_neg c2, if_neg c2, if_pos c1]
        by_cases c3 : x.f3.toList = y.f3.toList
        · rw [if_pos c3, c3, if_neg (by rw [bless_irr]; decide)]
        · rw [if_neg c3]
          by_cases c4 : Op.bytesLess y.f3.toList x.f3.toList = true
          · rw [if_pos c4]
          · exact absurd (bless_eq _ _ (by simpa using c2) (by simpa using c4)) c3
    · have e1 : cmpI x.f1 y.f1 ≠ 0 := fun h => c1 (way_ints.eq _ _ h)
      rw [if_neg c1, if_neg e1]
      unfold cmpI
      by_cases c2 : x.f1 < y.f1
      · rw [if_pos c2, decide_eq_true c2, patchbayref4_RecordOrder.j0.eq_2, if_pos rfl, patchbayref4_RecordOrder.j1.eq_2, if_pos rfl]
      · rw [if_neg c2, if_pos (by omega), decide_eq_false c2, patchbayref4_RecordOrder.j0.eq_2, if_neg (by simp), if_neg c1, patchbayref4_RecordOrder.j1.eq_2, if_neg (by simp), if_neg c1]
  · rw [if_neg c0, if_neg c0]
theorem tells : Tells lt Zone.T68.cmp okR := fun x y hx hy => ⟨ord x y, order_ev x y hx hy, by simp only [lt, decide_eq_true_eq]⟩

/-! ### lists in order, each key once -/
theorem ord_key {x y z : S68} (h : ord x y = 0) : ord x z = ord y z ∧ ord z x = ord z y := by
  have e := way_key.eq _ _ h
  unfold ord
  rw [e]
  exact ⟨rfl, rfl⟩
theorem ord_neg (x y : S68) : ord y x = - ord x y := way_key.neg _ _
theorem eqv_refl (x : S68) : eqv lt x x = true := (eqv_iff x x).2 (way_key.zero _)
theorem uniq : ∀ {L R : List S68}, Sorted lt L → Sorted lt R → (∀ x, L.filter (eqv lt x) = R.filter (eqv lt x)) → L = R := by
  intro L
  induction L with
  | nil =>
    intro R _ _ h
    cases R with
    | nil => rfl
    | cons y R =>
      have := h y
      rw [List.filter_cons_of_pos (eqv_refl y)] at this
      simp at this
  | cons x L ih =>
    intro R hL hR h
    cases R with
    | nil =>
      have := h x
      rw [List.filter_cons_of_pos (eqv_refl x)] at this
      simp at this
    | cons y R =>
      have hx : x ∈ y :: R := by
        have : x ∈ (x :: L).filter (eqv lt x) := List.mem_filter.2 ⟨List.mem_cons_self, eqv_refl x⟩
        rw [h x] at this
        exact (List.mem_filter.1 this).1
      have hy : y ∈ x :: L := by
        have : y ∈ (y :: R).filter (eqv lt y) := List.mem_filter.2 ⟨List.mem_cons_self, eqv_refl y⟩
        rw [← h y] at this
        exact (List.mem_filter.1 this).1
      have a1 : lt x y = false := by
        rcases List.mem_cons.1 hx with rfl | hx
        · exact irr ordr _
        · exact hR.head hx
      have a2 : lt y x = false := by
        rcases List.mem_cons.1 hy with rfl | hy
        · exact irr ordr _
        · exact hL.head hy
      have e2 : eqv lt x y = true := by simp [eqv, a1, a2]
      have hf := h x
      rw [List.filter_cons_of_pos (eqv_refl x), List.filter_cons_of_pos e2] at hf
      injection hf with hxy hf
      subst hxy
      refine congrArg _ (ih hL.tail hR.tail fun w => ?_)
      have hw := h w
      by_cases hc : eqv lt w x = true
      · rw [List.filter_cons_of_pos hc, List.filter_cons_of_pos hc] at hw
        injection hw
      · rw [List.filter_cons_of_neg hc, List.filter_cons_of_neg hc] at hw
        exact hw

def at_ (R : List S68) (m : Nat) : S68 := R.getD m z68
theorem at_mem (R : List S68) (m : Nat) (h : m < R.length) : at_ R m ∈ R := by
  unfold at_
  rw [List.getD_eq_getElem?_getD, List.getElem?_eq_getElem h]
  exact List.getElem_mem h
theorem take_snoc (R : List S68) (m : Nat) (h : m < R.length) : R.take (m + 1) = R.take m ++ [at_ R m] := by
  rw [List.take_add_one, List.getElem?_eq_getElem h]
  congr 1
  simp [at_, List.getD_eq_getElem?_getD, List.getElem?_eq_getElem h]
theorem drop_cons (R : List S68) (m : Nat) (h : m < R.length) : R.drop m = at_ R m :: R.drop (m + 1) := by
  rw [List.drop_eq_getElem_cons h]
  congr 1
  simp [at_, List.getD_eq_getElem?_getD, List.getElem?_eq_getElem h]
theorem at_drop (R : List S68) (a b : Nat) : at_ (R.drop a) b = at_ R (a + b) := by
  simp [at_, List.getD_eq_getElem?_getD, List.getElem?_drop]
theorem rd_eq (R : List S68) (i : Int) (m : Nat) (h : i = (m : Int)) : rd_T68 R i = at_ R m := by subst h; rfl

/-- What is left of the first m elements when each is dropped that is equal to the one ahead of it. -/
def cpt (R : List S68) : Nat → List S68
  | 0 => []
  | m + 1 => cpt R m ++ (if 0 < m ∧ ord (at_ R m) (at_ R (m - 1)) = 0 then [] else [at_ R m])

theorem take1_app {F G : List S68} (h : F ≠ []) : (F ++ G).take 1 = F.take 1 := by
  cases F with
  | nil => exact absurd rfl h
  | cons f F => simp

theorem cpt_facts (R : List S68) (hR : Sorted lt R) : ∀ m, m ≤ R.length → (∀ y, y ∈ cpt R m → y ∈ R.take m) ∧ Sorted lt (cpt R m) ∧ ∀ x, (cpt R m).filter (eqv lt x) = ((R.take m).filter (eqv lt x)).take 1 := by
  intro m
  induction m with
  | zero => intro _; exact ⟨(fun y hy => by cases hy), Sorted.nil, fun x => by simp [cpt]⟩
  | succ m ih =>
    intro hm
    obtain ⟨h1, h2, h3⟩ := ih (by omega)
    have hs : Sorted lt (R.take m ++ (at_ R m :: R.drop (m + 1))) := by rw [← drop_cons R m (by omega), List.take_append_drop]; exact hR
    rw [take_snoc R m (by omega)]
    by_cases c : 0 < m ∧ ord (at_ R m) (at_ R (m - 1)) = 0
    · have e : cpt R (m + 1) = cpt R m := by simp only [cpt]; rw [if_pos c, List.append_nil]
      rw [e]
      refine ⟨fun y hy => List.mem_append_left _ (h1 y hy), h2, fun x => ?_⟩
      rw [h3 x, List.filter_append]
      by_cases cx : eqv lt x (at_ R m) = true
      · refine (take1_app fun hn => ?_).symm
        have hp : at_ R (m - 1) ∈ R.take m := by
          have := take_snoc R (m - 1) (by omega)
          rw [show m - 1 + 1 = m by omega] at this
          rw [this]
          simp
        have : at_ R (m - 1) ∈ (R.take m).filter (eqv lt x) := List.mem_filter.2 ⟨hp, (eqv_iff _ _).2 (by rw [← (ord_key c.2).2]; exact (eqv_iff _ _).1 cx)⟩
        rw [hn] at this
        cases this
      · have hf : [at_ R m].filter (eqv lt x) = [] := by rw [List.filter_cons_of_neg cx]; rfl
        rw [hf, List.append_nil]
    · have e : cpt R (m + 1) = cpt R m ++ [at_ R m] := by simp only [cpt]; rw [if_neg c]
      rw [e]
      refine ⟨fun y hy => ?_, Sorted.app h2 (Sorted.one _) (fun x hx y hy => ?_), fun x => ?_⟩
      · rcases List.mem_append.1 hy with hy | hy
        · exact List.mem_append_left _ (h1 y hy)
        · exact List.mem_append_right _ hy
      · rw [List.mem_singleton.1 hy]
        exact hs.between (h1 x hx) (List.mem_cons_self)
      · rw [List.filter_append, List.filter_append, h3 x]
        by_cases cx : eqv lt x (at_ R m) = true
        · have hn : (R.take m).filter (eqv lt x) = [] := by
            rw [List.filter_eq_nil_iff]
            intro y hy hxy
            have hm0 : 0 < m := by
              rcases Nat.eq_zero_or_pos m with h0 | h0
              · rw [h0] at hy; cases hy
              · exact h0
            refine c ⟨hm0, ?_⟩
            have k1 := (eqv_iff _ _).1 cx
            have k2 := (eqv_iff _ _).1 hxy
            have k3 : ord (at_ R m) y = 0 := by rw [← (ord_key k1).1]; exact k2
            have hsn := take_snoc R (m - 1) (by omega)
            rw [show m - 1 + 1 = m by omega] at hsn
            have s1 : lt (at_ R (m - 1)) y = false := by
              have ht : Sorted lt (R.take m) := hs.left
              rw [hsn] at hy ht
              rcases List.mem_append.1 hy with hy | hy
              · exact ht.between hy (by simp)
              · rw [List.mem_singleton.1 hy]; exact irr ordr _
            have s2 : lt (at_ R m) (at_ R (m - 1)) = false := hs.between (by rw [hsn]; simp) (List.mem_cons_self)
            simp only [lt, decide_eq_false_iff_not] at s1 s2
            have n1 := ord_neg (at_ R m) (at_ R (m - 1))
            have n2 := (ord_key (z := at_ R (m - 1)) k3).2
            omega
          rw [hn, List.filter_cons_of_pos cx]
          rfl
        · have hf : [at_ R m].filter (eqv lt x) = [] := by rw [List.filter_cons_of_neg cx]; rfl
          rw [hf, List.append_nil, List.append_nil]

/-! ### the compaction -/
theorem same_ev (x y : S68) (hx : okR x) (hy : okR y) : Ev (fun k => zone_Sort_1.f k x.f0 x.f1 x.f2 x.f3 y.f0 y.f1 y.f2 y.f3) (decide (ord x y = 0)) := by
  refine Ev.bind (f := fun _ t => some (t == 0)) (order_ev x y hx hy) ⟨0, fun _ _ => ?_⟩
  show some (ord x y == 0) = _
  by_cases c : ord x y = 0 <;> simp [c]

theorem comp_l1 (R : List S68) (hl : R.length ≤ 100000000000000) (hok : ∀ x, x ∈ R → okR x) (i : Nat) (hi : 1 ≤ i) : ∀ (d j w : Nat) (x0 : List S68), i + j + d = R.length → 1 ≤ j → w + 1 ≤ i + j → x0.length = R.length → x0.take w = cpt R (i + j) → x0.drop (i + j - 1) = R.drop (i + j - 1) →
    Ev (fun k => api_ZoneRecord_65.l1 k x0 (w : Int) (i : Int) (j : Int)) (cpt R R.length) := by
  intro d
  induction d with
  | zero =>
    intro j w x0 hd hj hw hx ht hr
    refine Ev.step (f := fun _ => some (x0.take w)) (fun k => ?_) (by rw [ht, show i + j = R.length by omega]; exact Ev.now _)
    rw [api_ZoneRecord_65.l1.eq_2, Int.toNat_natCast, List.length_drop, hx, if_neg (by omega), if_pos (by omega), if_pos (by omega), Int.toNat_natCast]
  | succ d ih =>
    intro j w x0 hd hj hw hx ht hr
    have w1 : wrap64 ((j : Int) - 1) = ((j - 1 : Nat) : Int) := by rw [Go.Proofs.YtbcocpaeehgmnaaDoorW.Sort.wrap_small (by omega) (by omega)]; omega
    have w2 : wrap64 ((j : Int) + 1) = ((j + 1 : Nat) : Int) := by rw [Go.Proofs.YtbcocpaeehgmnaaDoorW.Sort.wrap_small (by omega) (by omega)]; omega
    have w3 : wrap64 ((w : Int) + 1) = ((w + 1 : Nat) : Int) := by rw [Go.Proofs.YtbcocpaeehgmnaaDoorW.Sort.wrap_small (by omega) (by omega)]; omega
    have g : ∀ q, i + j - 1 ≤ q → at_ x0 q = at_ R q := by
      intro q hq
      have h1 := at_drop x0 (i + j - 1) (q - (i + j - 1))
      have h2 := at_drop R (i + j - 1) (q - (i + j - 1))
      rw [hr, show i + j - 1 + (q - (i + j - 1)) = q by omega] at h1
      rw [show i + j - 1 + (q - (i + j - 1)) = q by omega] at h2
      rw [← h1, h2]
    have e1 : rd_T68 (x0.drop i) (j : Int) = at_ R (i + j) := by rw [rd_eq _ _ j rfl, at_drop, g _ (by omega)]
    have e2 : rd_T68 (x0.drop i) ((j - 1 : Nat) : Int) = at_ R (i + j - 1) := by rw [rd_eq _ _ (j - 1) rfl, at_drop, g _ (by omega)]; congr 1; omega
    have hb := same_ev (at_ R (i + j)) (at_ R (i + j - 1)) (hok _ (at_mem R _ (by omega))) (hok _ (at_mem R _ (by omega)))
    refine Ev.step (f := fun k => (zone_Sort_1.f k (at_ R (i + j)).f0 (at_ R (i + j)).f1 (at_ R (i + j)).f2 (at_ R (i + j)).f3 (at_ R (i + j - 1)).f0 (at_ R (i + j - 1)).f1 (at_ R (i + j - 1)).f2 (at_ R (i + j - 1)).f3).bind fun t => if t = true then api_ZoneRecord_65.l1 k x0 (w : Int) (i : Int) ((j + 1 : Nat) : Int) else api_ZoneRecord_65.l1 k (x0.set w (at_ R (i + j))) ((w + 1 : Nat) : Int) (i : Int) ((j + 1 : Nat) : Int)) (fun k => ?_) (Ev.bind hb ?_)
    · rw [api_ZoneRecord_65.l1.eq_2, Int.toNat_natCast, List.length_drop, hx, if_pos (by omega), if_pos (by omega), w1, if_pos (by omega), if_pos (by omega), e1, e2, w2, w3, if_pos (by omega), if_pos (by omega), Int.toNat_natCast]
    · by_cases c : ord (at_ R (i + j)) (at_ R (i + j - 1)) = 0
      · refine Ev.congr (fun k => by rw [decide_eq_true c, if_pos rfl]) (ih (j + 1) w x0 (by omega) (by omega) (by omega) hx ?_ ?_)
        · rw [ht, show i + (j + 1) = i + j + 1 by omega]
          simp only [cpt]
          rw [if_pos ⟨by omega, c⟩, List.append_nil]
        · rw [show i + (j + 1) - 1 = i + j - 1 + 1 by omega, ← List.drop_drop, ← List.drop_drop, hr]
      · refine Ev.congr (fun k => by rw [decide_eq_false c, if_neg (by simp)]) (ih (j + 1) (w + 1) (x0.set w (at_ R (i + j))) (by omega) (by omega) (by omega) (by rw [List.length_set]; exact hx) ?_ ?_)
        · have hwl : w < (x0.set w (at_ R (i + j))).length := by rw [List.length_set]; omega
          rw [take_snoc _ w hwl, show i + (j + 1) = i + j + 1 by omega]
          simp only [cpt]
          rw [if_neg (fun h => c h.2), ← ht]
          congr 1
          · rw [List.take_set_of_le (Nat.le_refl _)]
          · simp [at_, List.getD_eq_getElem?_getD, show w < x0.length by omega]
        · rw [show i + (j + 1) - 1 = i + j - 1 + 1 by omega, List.drop_set_of_lt (by omega), ← List.drop_drop, ← List.drop_drop, hr]

theorem comp_l0 (R : List S68) (hl : R.length ≤ 100000000000000) (hok : ∀ x, x ∈ R → okR x) : ∀ (d i : Nat), i + d = R.length → 1 ≤ i → cpt R i = R.take i → Ev (fun k => api_ZoneRecord_65.l0 k R (i : Int)) (cpt R R.length) := by
  intro d
  induction d with
  | zero =>
    intro i hd hi hc
    refine Ev.step (f := fun _ => some R) (fun k => ?_) (by rw [show R.length = i by omega, hc, show i = R.length by omega, List.take_length]; exact Ev.now _)
    rw [api_ZoneRecord_65.l0.eq_2, if_neg (by omega)]
  | succ d ih =>
    intro i hd hi hc
    have w1 : wrap64 ((i : Int) - 1) = ((i - 1 : Nat) : Int) := by rw [Go.Proofs.YtbcocpaeehgmnaaDoorW.Sort.wrap_small (by omega) (by omega)]; omega
    have w2 : wrap64 ((i : Int) + 1) = ((i + 1 : Nat) : Int) := by rw [Go.Proofs.YtbcocpaeehgmnaaDoorW.Sort.wrap_small (by omega) (by omega)]; omega
    have hb := same_ev (at_ R i) (at_ R (i - 1)) (hok _ (at_mem R _ (by omega))) (hok _ (at_mem R _ (by omega)))
    refine Ev.step (f := fun k => (zone_Sort_1.f k (at_ R i).f0 (at_ R i).f1 (at_ R i).f2 (at_ R i).f3 (at_ R (i - 1)).f0 (at_ R (i - 1)).f1 (at_ R (i - 1)).f2 (at_ R (i - 1)).f3).bind fun t => if t = true then api_ZoneRecord_65.l1 k R (i : Int) (i : Int) 1 else api_ZoneRecord_65.l0 k R ((i + 1 : Nat) : Int)) (fun k => ?_) (Ev.bind hb ?_)
    · rw [api_ZoneRecord_65.l0.eq_2, if_pos (by omega), if_pos (by omega), w1, if_pos (by omega), if_pos (by omega), rd_eq R (i : Int) i rfl, rd_eq R ((i - 1 : Nat) : Int) (i - 1) rfl, if_pos (by omega), w2]
    · by_cases c : ord (at_ R i) (at_ R (i - 1)) = 0
      · refine Ev.congr (fun k => by rw [decide_eq_true c, if_pos rfl]; rfl) (comp_l1 R hl hok i hi d 1 i R (by omega) (by omega) (by omega) rfl ?_ rfl)
        simp only [cpt]
        rw [if_pos ⟨by omega, c⟩, List.append_nil, hc]
      · refine Ev.congr (fun k => by rw [decide_eq_false c, if_neg (by simp)]) (ih (i + 1) (by omega) (by omega) ?_)
        simp only [cpt]
        rw [if_neg (fun h => c h.2), hc, take_snoc R i (by omega)]

theorem comp_ev (R : List S68) (hl : R.length ≤ 100000000000000) (hok : ∀ x, x ∈ R → okR x) : Ev (fun k => api_ZoneRecord_65.f k R) (cpt R R.length) := by
  by_cases c : R.length < 2
  · refine Ev.congr (f := fun _ => some R) (fun k => by unfold api_ZoneRecord_65.f; rw [if_pos (by omega)]) ?_
    have e : cpt R R.length = R := by
      match R, c with
      | [], _ => rfl
      | [x], _ => rfl
    rw [e]
    exact Ev.now _
  · refine Ev.congr (f := fun k => api_ZoneRecord_65.l0 k R 1) (fun k => by unfold api_ZoneRecord_65.f; rw [if_neg (by omega)]) ?_
    refine comp_l0 R hl hok (R.length - 1) 1 (by omega) (Nat.le_refl _) ?_
    rw [take_snoc R 0 (by omega)]
    simp [cpt]

/-! ### the reference's list -/
theorem split_ (r : S68) : ∀ (out : List S68), Sorted lt out → out.take (out.countP fun y => lt y r) = out.filter (fun y => lt y r) ∧ out.drop (out.countP fun y => lt y r) = out.filter (fun y => !lt y r) := by
  intro out
  induction out with
  | nil => intro _; exact ⟨rfl, rfl⟩
  | cons y t ih =>
    intro h
    by_cases c : lt y r = true
    · obtain ⟨h1, h2⟩ := ih h.tail
      rw [List.countP_cons_of_pos (p := fun y => lt y r) c, List.filter_cons_of_pos (p := fun y => lt y r) c, List.filter_cons_of_neg (p := fun y => !lt y r) (by simp [c])]
      exact ⟨by rw [List.take_succ_cons, h1], by rw [List.drop_succ_cons, h2]⟩
    · have c' : lt y r = false := by simpa using c
      have hz : ∀ z, z ∈ y :: t → lt z r = false := by
        intro z hz
        rcases List.mem_cons.1 hz with rfl | hz
        · exact c'
        · exact ordr.ntr (h.head hz) c'
      have e0 : (y :: t).countP (fun y => lt y r) = 0 := List.countP_eq_zero.2 (fun z hz' => by rw [hz z hz']; simp)
      rw [e0, List.take_zero, List.drop_zero, List.filter_eq_nil_iff.2 (fun z hz' => by rw [hz z hz']; simp), List.filter_eq_self.2 (fun z hz' => by rw [hz z hz']; rfl)]
      exact ⟨rfl, rfl⟩

def Inv (L out : List S68) (m : Nat) : Prop := out.length ≤ m ∧ Sorted lt out ∧ ∀ x, out.filter (eqv lt x) = ((L.take m).filter (eqv lt x)).take 1

theorem inv_step (L out : List S68) (m : Nat) (hm : m < L.length) (h : Inv L out m) : Inv L (if (out.any fun y => decide (ord y (at_ L m) = 0)) = true then out else out.take (out.countP fun y => lt y (at_ L m)) ++ ([at_ L m] ++ out.drop (out.countP fun y => lt y (at_ L m)))) (m + 1) := by
  obtain ⟨h0, h1, h2⟩ := h
  unfold Inv
  rw [take_snoc L m hm]
  generalize at_ L m = r
  by_cases c : (out.any fun y => decide (ord y r = 0)) = true
  · rw [if_pos c]
    refine ⟨by omega, h1, fun x => ?_⟩
    rw [h2 x, List.filter_append]
    by_cases cx : eqv lt x r = true
    · refine (take1_app fun hn => ?_).symm
      obtain ⟨y, hy, hyr⟩ := List.any_eq_true.1 c
      have hyr' : ord y r = 0 := by simpa using hyr
      have k1 := (eqv_iff _ _).1 cx
      have k2 : ord x y = 0 := by
        have a1 := (ord_key (z := x) hyr').2
        omega
      have : y ∈ out.filter (eqv lt x) := List.mem_filter.2 ⟨hy, (eqv_iff _ _).2 k2⟩
      rw [h2 x, hn] at this
      cases this
    · have hf : [r].filter (eqv lt x) = [] := by rw [List.filter_cons_of_neg cx]; rfl
      rw [hf, List.append_nil]
  · rw [if_neg c]
    obtain ⟨s1, s2⟩ := split_ r out h1
    have hno : ∀ y, y ∈ out → ord y r ≠ 0 := fun y hy e => c (List.any_eq_true.2 ⟨y, hy, by simp [e]⟩)
    have hso : Sorted lt (out.filter (fun y => lt y r) ++ out.filter (fun y => !lt y r)) := by rw [← s1, ← s2, List.take_append_drop]; exact h1
    have hfo : ∀ x, out.filter (eqv lt x) = (out.filter (fun y => lt y r)).filter (eqv lt x) ++ (out.filter (fun y => !lt y r)).filter (eqv lt x) := fun x => by
      rw [← List.filter_append, ← s1, ← s2, List.take_append_drop]
    refine ⟨?_, ?_, fun x => ?_⟩
    · have hl : (out.take (out.countP fun y => lt y r)).length + (out.drop (out.countP fun y => lt y r)).length = out.length := by rw [← List.length_append, List.take_append_drop]
      simp only [List.length_append, List.length_cons, List.length_nil]
      omega
    · rw [s1, s2]
      refine Sorted.app hso.left (Sorted.cons hso.right (fun y hy => ?_)) (fun x hx y hy => ?_)
      · have := (List.mem_filter.1 hy).2
        simpa using this
      · rcases List.mem_cons.1 hy with rfl | hy
        · exact ordr.asymm (List.mem_filter.1 hx).2
        · exact hso.between hx hy
    · rw [s1, s2, List.filter_append, List.filter_append, List.filter_append]
      by_cases cx : eqv lt x r = true
      · have k1 := (eqv_iff _ _).1 cx
        have hn : out.filter (eqv lt x) = [] := by
          rw [List.filter_eq_nil_iff]
          intro y hy hxy
          have k2 := (eqv_iff _ _).1 hxy
          have a1 := (ord_key (z := r) k2).1
          exact hno y hy (by omega)
        have hF : (L.take m).filter (eqv lt x) = [] := by
          have := h2 x
          rw [hn] at this
          cases hq : (L.take m).filter (eqv lt x) with
          | nil => rfl
          | cons a q => rw [hq] at this; simp at this
        rw [hfo x] at hn
        obtain ⟨n1, n2⟩ := List.append_eq_nil_iff.1 hn
        rw [n1, n2, hF, List.filter_cons_of_pos cx]
        rfl
      · have hf : [r].filter (eqv lt x) = [] := by rw [List.filter_cons_of_neg cx]; rfl
        rw [hf, List.nil_append, List.append_nil, ← hfo x, h2 x]

theorem inner_run (L out : List S68) (hlo : out.length ≤ 100000000000000) (m : Nat) (r : S68) (res : List S68) : ∀ (d i c : Nat) (b : Bool), i + d = out.length → c ≤ i →
    Ev (fun k => if (b || (out.drop i).any fun y => decide (ord y r = 0)) = true then patchbayref4_Sorted.l0 k out L (L.length : Int) (wrap64 ((m : Int) + 1)) else (insert_68.f out ((c + (out.drop i).countP (fun y => lt y r) : Nat) : Int) r.f0 r.f1 r.f2 r.f3).bind fun t => patchbayref4_Sorted.l0 k t L (L.length : Int) (wrap64 ((m : Int) + 1))) res →
    Ev (fun k => patchbayref4_Sorted.l1 k out (c : Int) b L (L.length : Int) (m : Int) out (out.length : Int) (i : Int) r.f0 r.f1 r.f2 r.f3) res := by
  intro d
  induction d with
  | zero =>
    intro i c b hd hc h
    rw [List.drop_eq_nil_iff.2 (by omega)] at h
    simp only [List.any_nil, Bool.or_false, List.countP_nil, Nat.add_zero] at h
    refine Ev.step (fun k => ?_) h
    rw [patchbayref4_Sorted.l1.eq_2, if_neg (by omega)]
  | succ d ih =>
    intro i c b hd hc h
    have w1 : wrap64 ((i : Int) + 1) = ((i + 1 : Nat) : Int) := by rw [Go.Proofs.YtbcocpaeehgmnaaDoorW.Sort.wrap_small (by omega) (by omega)]; omega
    have w2 : wrap64 ((c : Int) + 1) = ((c + 1 : Nat) : Int) := by rw [Go.Proofs.YtbcocpaeehgmnaaDoorW.Sort.wrap_small (by omega) (by omega)]; omega
    have hd2 := drop_cons out i (by omega)
    have ho := recordOrder_ev (at_ out i) r
    have e1 : rd_T68 out (i : Int) = at_ out i := rd_eq _ _ i rfl
    have hnx := ih (i + 1) (if lt (at_ out i) r = true then c + 1 else c) (b || decide (ord (at_ out i) r = 0)) (by omega) (by split <;> omega) (by
      rw [hd2, List.any_cons, List.countP_cons] at h
      refine Ev.congr (fun k => ?_) h
      have a1 : ((b || decide (ord (at_ out i) r = 0)) || (out.drop (i + 1)).any fun y => decide (ord y r = 0)) = (b || (decide (ord (at_ out i) r = 0) || (out.drop (i + 1)).any fun y => decide (ord y r = 0))) := Bool.or_assoc _ _ _
      have a2 : (if lt (at_ out i) r = true then c + 1 else c) + (out.drop (i + 1)).countP (fun y => lt y r) = c + ((out.drop (i + 1)).countP (fun y => lt y r) + if lt (at_ out i) r = true then 1 else 0) := by split <;> omega
      rw [a1, a2])
    refine Ev.step (f := fun k => (patchbayref4_RecordOrder.f k (at_ out i).f0 (at_ out i).f1 (at_ out i).f2 (at_ out i).f3 r.f0 r.f1 r.f2 r.f3).bind fun t => if t < 0 then (if b = true then patchbayref4_Sorted.l1 k out ((c + 1 : Nat) : Int) true L (L.length : Int) (m : Int) out (out.length : Int) ((i + 1 : Nat) : Int) r.f0 r.f1 r.f2 r.f3 else (patchbayref4_RecordOrder.f k (at_ out i).f0 (at_ out i).f1 (at_ out i).f2 (at_ out i).f3 r.f0 r.f1 r.f2 r.f3).bind fun t' => patchbayref4_Sorted.l1 k out ((c + 1 : Nat) : Int) (t' == 0) L (L.length : Int) (m : Int) out (out.length : Int) ((i + 1 : Nat) : Int) r.f0 r.f1 r.f2 r.f3)
        else (if b = true then patchbayref4_Sorted.l1 k out (c : Int) true L (L.length : Int) (m : Int) out (out.length : Int) ((i + 1 : Nat) : Int) r.f0 r.f1 r.f2 r.f3 else (patchbayref4_RecordOrder.f k (at_ out i).f0 (at_ out i).f1 (at_ out i).f2 (at_ out i).f3 r.f0 r.f1 r.f2 r.f3).bind fun t' => patchbayref4_Sorted.l1 k out (c : Int) (t' == 0) L (L.length : Int) (m : Int) out (out.length : Int) ((i + 1 : Nat) : Int) r.f0 r.f1 r.f2 r.f3)) (fun k => ?_) (Ev.bind ho ?_)
    · rw [patchbayref4_Sorted.l1.eq_2, if_pos (by omega), if_pos (by omega), if_pos (by omega), e1, w1, w2]
    · have eb : ∀ (t : Int), (t == 0) = decide (t = 0) := fun t => by by_cases h : t = 0 <;> simp [h]
      by_cases c1 : ord (at_ out i) r < 0
      · rw [if_pos (show lt (at_ out i) r = true by simp only [lt, decide_eq_true_eq]; exact c1)] at hnx
        cases b with
        | true => exact Ev.congr (fun k => by rw [if_pos c1, if_pos rfl]; rfl) hnx
        | false =>
          refine Ev.congr (fun k => by rw [if_pos c1, if_neg (by simp)]) (Ev.bind (f := fun k t' => patchbayref4_Sorted.l1 k out ((c + 1 : Nat) : Int) (t' == 0) L (L.length : Int) (m : Int) out (out.length : Int) ((i + 1 : Nat) : Int) r.f0 r.f1 r.f2 r.f3) ho ?_)
          rw [eb]
          simpa using hnx
      · rw [if_neg (show ¬ lt (at_ out i) r = true by simp only [lt, decide_eq_true_eq]; exact c1)] at hnx
        cases b with
        | true => exact Ev.congr (fun k => by rw [if_neg c1, if_pos rfl]; rfl) hnx
        | false =>
          refine Ev.congr (fun k => by rw [if_neg c1, if_neg (by simp)]) (Ev.bind (f := fun k t' => patchbayref4_Sorted.l1 k out (c : Int) (t' == 0) L (L.length : Int) (m : Int) out (out.length : Int) ((i + 1 : Nat) : Int) r.f0 r.f1 r.f2 r.f3) ho ?_)
          rw [eb]
          simpa using hnx

theorem outer_run (L : List S68) (hL : L.length * 48 ≤ 140737488351232) : ∀ (d m : Nat) (out : List S68), m + d = L.length → Inv L out m → ∃ D, Inv L D L.length ∧ Ev (fun k => patchbayref4_Sorted.l0 k out L (L.length : Int) (m : Int)) D := by
  intro d
  induction d with
  | zero =>
    intro m out hd h
    obtain rfl : m = L.length := by omega
    refine ⟨out, h, Ev.step (f := fun _ => some out) (fun k => ?_) (Ev.now _)⟩
    rw [patchbayref4_Sorted.l0.eq_2, if_neg (by omega)]
  | succ d ih =>
    intro m out hd h
    obtain ⟨D, hD, hE⟩ := ih (m + 1) _ (by omega) (inv_step L out m (by omega) h)
    refine ⟨D, hD, ?_⟩
    have w1 : wrap64 ((m : Int) + 1) = ((m + 1 : Nat) : Int) := by rw [Go.Proofs.YtbcocpaeehgmnaaDoorW.Sort.wrap_small (by omega) (by omega)]; omega
    have e1 : rd_T68 L (m : Int) = at_ L m := rd_eq _ _ m rfl
    have hol := h.1
    refine Ev.step (f := fun k => patchbayref4_Sorted.l1 k out ((0 : Nat) : Int) false L (L.length : Int) (m : Int) out (out.length : Int) ((0 : Nat) : Int) (at_ L m).f0 (at_ L m).f1 (at_ L m).f2 (at_ L m).f3) (fun k => ?_) (inner_run L out (by omega) m (at_ L m) D out.length 0 0 false (by omega) (Nat.le_refl _) ?_)
    · rw [patchbayref4_Sorted.l0.eq_2, if_pos (by omega), if_pos (by omega), if_pos (by omega), e1]
      rfl
    · rw [List.drop_zero, Bool.false_or, Nat.zero_add, w1]
      by_cases c : (out.any fun y => decide (ord y (at_ L m) = 0)) = true
      · rw [if_pos c] at hE
        exact Ev.congr (fun k => if_pos c) hE
      · rw [if_neg c] at hE
        refine Ev.congr (fun k => (if_neg c).trans ?_) hE
        have hc : (out.countP fun y => lt y (at_ L m)) ≤ out.length := List.countP_le_length
        have hi : insert_68.f out ((out.countP fun y => lt y (at_ L m) : Nat) : Int) (at_ L m).f0 (at_ L m).f1 (at_ L m).f2 (at_ L m).f3 = some (out.take (out.countP fun y => lt y (at_ L m)) ++ ([at_ L m] ++ out.drop (out.countP fun y => lt y (at_ L m)))) := by
          unfold insert_68.f
          rw [if_pos ⟨by omega, by omega, by omega⟩, Int.toNat_natCast]
          rfl
        rw [hi, Option.bind_some]

theorem sorted_ev (L : List S68) (hL : L.length * 48 ≤ 140737488351232) : ∃ D, Inv L D L.length ∧ Ev (fun k => patchbayref4_Sorted.f k L) D :=
  outer_run L hL L.length 0 [] (by omega) ⟨Nat.le_refl _, Sorted.nil, fun x => by simp⟩

/-! ### the program's list -/
theorem good_ev (L : List S68) (hL : L.length * 48 ≤ 140737488351232) (hok : ∀ x, x ∈ L → okR x) : ∃ C, (∀ D, Inv L D L.length → C = D) ∧ C.length ≤ L.length ∧ Ev (fun k => (api_ZoneRecord_62.f L).bind fun t => (api_ZoneRecord_63.f k t).bind fun t' => (api_ZoneRecord_65.f k t').bind fun t'' => some t'') C := by
  obtain ⟨R, r1, r2, r3⟩ := Zone.T68.sorts ordr tells L (by omega) hok
  obtain ⟨f1, f2, f3⟩ := cpt_facts R r1 R.length (Nat.le_refl _)
  have hRl := r2.len
  have key : ∀ D, Inv L D L.length → cpt R R.length = D := by
    intro D hD
    refine uniq f2 hD.2.1 (fun x => ?_)
    rw [f3 x, hD.2.2 x, List.take_length, List.take_length, r2.2 x]
  obtain ⟨D, hD, _⟩ := sorted_ev L hL
  refine ⟨cpt R R.length, key, by rw [key D hD]; exact hD.1, ?_⟩
  have hcl : api_ZoneRecord_62.f L = some L := by unfold api_ZoneRecord_62.f; rw [if_pos (by omega)]
  refine Ev.congr (f := fun k => (api_ZoneRecord_63.f k L).bind fun t' => (api_ZoneRecord_65.f k t').bind fun t'' => some t'') (fun k => by rw [hcl, Option.bind_some]) ?_
  exact Ev.bind (f := fun k t' => (api_ZoneRecord_65.f k t').bind fun t'' => some t'') r3 (Ev.bind (f := fun _ t'' => some t'') (comp_ev R (by omega) (fun x hx => hok x (r2.mem.1 hx))) (Ev.now _))

def firstErr : List S68 → Int
  | [] => 0
  | x :: t => if (lab x.f0).2 = 0 then firstErr t else (lab x.f0).2
theorem firstErr_zero : ∀ {L : List S68}, firstErr L = 0 → ∀ x, x ∈ L → okR x
  | [], _, x, hx => by cases hx
  | y :: t, h, x, hx => by
    simp only [firstErr] at h
    by_cases c : (lab y.f0).2 = 0
    · rw [if_pos c] at h
      rcases List.mem_cons.1 hx with rfl | hx
      · exact c
      · exact firstErr_zero h x hx
    · rw [if_neg c] at h
      exact absurd h c

theorem zs_loop (o : ByteArray) (L : List S68) (hL : L.length ≤ 100000000000000) (res : ByteArray × List S68 × Int) : ∀ (d i : Nat), i + d = L.length →
    (firstErr (L.drop i) = 0 → Ev (fun k => (api_ZoneRecord_62.f L).bind fun t => (api_ZoneRecord_63.f k t).bind fun t' => (api_ZoneRecord_65.f k t').bind fun t'' => some (o, t'', (0 : Int))) res) →
    (firstErr (L.drop i) ≠ 0 → res = ((⟨#[]⟩ : ByteArray), [], firstErr (L.drop i))) → Ev (fun k => zone_Sort.l0 k L (L.length : Int) (i : Int) o L) res := by
  intro d
  induction d with
  | zero =>
    intro i hd h1 _
    refine Ev.step (fun k => ?_) (h1 (by rw [List.drop_eq_nil_iff.2 (by omega)]; rfl))
    rw [zone_Sort.l0.eq_2, if_neg (by omega)]
  | succ d ih =>
    intro i hd h1 h2
    rw [drop_cons L i (by omega)] at h1 h2
    have w1 : wrap64 ((i : Int) + 1) = ((i + 1 : Nat) : Int) := by rw [Go.Proofs.YtbcocpaeehgmnaaDoorW.Sort.wrap_small (by omega) (by omega)]; omega
    have e1 : rd_T68 L (i : Int) = at_ L i := rd_eq _ _ i rfl
    refine Ev.step (f := fun k => (label_Check.f k (at_ L i).f0).bind fun t => if t = 0 then zone_Sort.l0 k L (L.length : Int) ((i + 1 : Nat) : Int) o L else some ((⟨#[]⟩ : ByteArray), ([] : List S68), t)) (fun k => ?_) (Ev.bind (check_ev (at_ L i).f0) ?_)
    · rw [zone_Sort.l0.eq_2, if_pos (by omega), if_pos (by omega), if_pos (by omega), e1, w1]
    · simp only [firstErr] at h1 h2
      by_cases c : (lab (at_ L i).f0).2 = 0
      · rw [if_pos c] at h1 h2
        exact Ev.congr (fun k => if_pos c) (ih (i + 1) (by omega) h1 h2)
      · rw [if_neg c] at h2
        refine Ev.congr (fun k => if_neg c) ?_
        rw [h2 c]
        exact Ev.now _

theorem same_l0 (l : List S68) (hl : l.length ≤ 100000000000000) (d : Nat) : ∀ (i k : Nat), i + d = l.length → d + 1 ≤ k → patchbayref4_SameRecords.l0 k l l (l.length : Int) i = some true := by
  induction d with
  | zero =>
    intro i k hi hk
    obtain ⟨k, rfl⟩ : ∃ m, k = m + 1 := ⟨k - 1, by omega⟩
    simp only [patchbayref4_SameRecords.l0]
    rw [if_neg (by omega)]
  | succ d ih =>
    intro i k hi hk
    obtain ⟨k, rfl⟩ : ∃ m, k = m + 1 := ⟨k - 1, by omega⟩
    have h := ih (i + 1) k (by omega) (by omega)
    have hw : wrap64 ((i : Int) + 1) = ((i + 1 : Nat) : Int) := by unfold wrap64; omega
    simp only [patchbayref4_SameRecords.l0]
    rw [if_pos (by omega), if_pos (by omega), if_pos (by omega), if_pos (by omega), hw, if_neg (by simp)]
    exact h
theorem sameZone_ev (o : ByteArray) (l : List S68) (hl : l.length ≤ 100000000000000) : Ev (fun k => patchbayref4_SameZone.f k o l o l) true := by
  refine Ev.congr (f := fun k => (patchbayref4_SameRecords.f k l l).bind fun t => some t) (fun k => by unfold patchbayref4_SameZone.f; rw [if_pos rfl]) (Ev.bind (a := true) (f := fun _ t => some t) ?_ (Ev.now _))
  exact Ev.of (fun k => patchbayref4_SameRecords.mono l l k) (k := l.length + 1) (by unfold patchbayref4_SameRecords.f; rw [if_pos rfl]; exact same_l0 l hl l.length 0 _ (by omega) (Nat.le_refl _))

theorem law_loop (o oo : ByteArray) (L out : List S68) (e : Int) (hL : L.length ≤ 100000000000000) : ∀ (d i : Nat), i + d = L.length → e = firstErr (L.drop i) →
    (e = 0 → Ev (fun k => (patchbayref4_Sorted.f k L).bind fun t => (patchbayref4_SameZone.f k oo out o t).bind fun t' => some t') true) → (e ≠ 0 → oo = (⟨#[]⟩ : ByteArray) ∧ out = []) → Ev (fun k => patchbaylaw4_ZoneSorts.l0 k e L (L.length : Int) (i : Int) o L oo out) true := by
  intro d
  induction d with
  | zero =>
    intro i hd he h1 _
    rw [List.drop_eq_nil_iff.2 (by omega)] at he
    refine Ev.step (fun k => ?_) (h1 he)
    rw [patchbaylaw4_ZoneSorts.l0.eq_2, if_neg (by omega), if_pos (show e = 0 from he)]
  | succ d ih =>
    intro i hd he h1 h2
    rw [drop_cons L i (by omega)] at he
    have w1 : wrap64 ((i : Int) + 1) = ((i + 1 : Nat) : Int) := by rw [Go.Proofs.YtbcocpaeehgmnaaDoorW.Sort.wrap_small (by omega) (by omega)]; omega
    have e1 : rd_T68 L (i : Int) = at_ L i := rd_eq _ _ i rfl
    refine Ev.step (f := fun k => (patchbayref4_LabelsOf.f k (at_ L i).f0).bind fun bt => if bt.2 = 0 then patchbaylaw4_ZoneSorts.l0 k e L (L.length : Int) ((i + 1 : Nat) : Int) o L oo out else (if e = bt.2 then (patchbayref4_SameZone.f k oo out (⟨#[]⟩ : ByteArray) ([] : List S68)).bind fun t => some t else some false)) (fun k => ?_) (Ev.bind (labelsOf_ev (at_ L i).f0) ?_)
    · rw [patchbaylaw4_ZoneSorts.l0.eq_2, if_pos (by omega), if_pos (by omega), if_pos (by omega), e1, w1]
    · simp only [firstErr] at he
      by_cases c : (lab (at_ L i).f0).2 = 0
      · rw [if_pos c] at he
        exact Ev.congr (fun k => if_pos c) (ih (i + 1) (by omega) he h1 h2)
      · rw [if_neg c] at he
        obtain ⟨q1, q2⟩ := h2 (by rw [he]; exact c)
        subst q1 q2
        exact Ev.congr (fun k => (if_neg c).trans (if_pos he)) (Ev.bind (f := fun _ t => some t) (sameZone_ev _ _ (by simp)) (Ev.now _))

theorem ZoneSorts (z : S64) (h : v64 z) : ∃ k, patchbaylaw4_ZoneSorts.f k z.f0 z.f1 = some true := by
  obtain ⟨o, L⟩ := z
  have hL : L.length * 48 ≤ 140737488351232 := h.2.1
  refine Ev.rounds (g := fun k => patchbaylaw4_ZoneSorts.f k o L) ?_
  have hd : (lab (⟨#[]⟩ : ByteArray)).2 = 3 := by
    have : labelsL [] = ([], 3) := by decide +kernel
    show (labelsL []).2 = 3
    rw [this]
  have t1 : Ev (fun k => zone_Sort.f k (⟨#[]⟩ : ByteArray) ([(⟨(⟨#[]⟩ : ByteArray), 0, 0, (⟨#[]⟩ : ByteArray)⟩ : S68)] : List S68)) ((⟨#[]⟩ : ByteArray), [], 3) := by
    have e3 : firstErr [(⟨(⟨#[]⟩ : ByteArray), 0, 0, (⟨#[]⟩ : ByteArray)⟩ : S68)] = 3 := by
      simp only [firstErr]
      rw [if_neg (by rw [hd]; decide), hd]
    exact zs_loop _ _ (by simp) _ 1 0 rfl (fun h => by rw [List.drop_zero, e3] at h; cases h) (fun _ => by rw [List.drop_zero, e3])
  refine Ev.bind (f := fun k bt277 => if bt277.2.2 = 3 then ((zone_Sort.f k o L).bind fun bt283 => (patchbaylaw4_ZoneSorts.l0 k bt283.2.2 L (L.length : Int) 0 o L bt283.1 bt283.2.1)) else (some false)) t1 (Ev.congr (fun k => if_pos rfl) ?_)
  by_cases c : firstErr L = 0
  · obtain ⟨C, c1, c2, c3⟩ := good_ev L hL (firstErr_zero c)
    obtain ⟨D, d1, d2⟩ := sorted_ev L hL
    have e := c1 D d1
    subst e
    have hz : Ev (fun k => zone_Sort.f k o L) (o, C, 0) := by
      refine zs_loop o L (by omega) _ L.length 0 (by omega) (fun _ => ?_) (fun h => absurd (by rw [List.drop_zero]; exact c) h)
      have hb := Ev.bind (f := fun _ t => some (o, t, (0 : Int))) c3 (Ev.now _)
      refine Ev.congr (fun k => ?_) hb
      cases api_ZoneRecord_62.f L with
      | none => rfl
      | some t =>
        simp only [Option.bind_some]
        cases api_ZoneRecord_63.f k t with
        | none => rfl
        | some t' =>
          simp only [Option.bind_some]
          cases api_ZoneRecord_65.f k t' <;> rfl
    refine Ev.bind hz (law_loop o o L C 0 (by omega) L.length 0 (by omega) (by rw [List.drop_zero]; exact c.symm) (fun _ => ?_) (fun h => absurd rfl h))
    exact Ev.bind d2 (Ev.bind (f := fun _ t => some t) (sameZone_ev o C (by omega)) (Ev.now _))
  · have hz : Ev (fun k => zone_Sort.f k o L) ((⟨#[]⟩ : ByteArray), [], firstErr L) :=
      zs_loop o L (by omega) _ L.length 0 (by omega) (fun h => absurd (by rw [List.drop_zero] at h; exact h) c) (fun _ => by rw [List.drop_zero])
    exact Ev.bind hz (law_loop o _ L _ _ (by omega) L.length 0 (by omega) (by rw [List.drop_zero]) (fun h => absurd h c) (fun _ => ⟨rfl, rfl⟩))

end Go.Proofs.YtbcocpaeehgmnaaDoor.Pure
