/- What label's packer does: put and Pack, walked by hand, in the form of the printed texts. -/
import Derived.Test.YtbcocpaeehgmnaaDoorLpx3
import Derived.Maps.OwnSet
import Derived.StringKeys
import Derived.Maps.AppendAt
import Derived.StillTailTactics
import Derived.Deep.RegionHeld3
set_option linter.unusedVariables false
set_option linter.unusedSimpArgs false
namespace Go.Proofs.YtbcocpaeehgmnaaDoor.Lp
open Go.RowKit Go.Maps Go.WideMaps Go.Proofs.YtbcocpaeehgmnaaDoorW.PrintWords Go.Proofs.YtbcocpaeehgmnaaDoorW.PrintLast Go.Proofs.YtbcocpaeehgmnaaDoorW.PrintMore

def look (kn : List (ByteArray × Int)) (s : ByteArray) : Option Int := (kn.find? (fun p => decide (p.1 = s))).map (·.2)
/-- What put makes of the bytes and of the known names. -/
def putM : List ByteArray → List Int → List (ByteArray × Int) → Option (List Int × List (ByteArray × Int))
  | [], o, kn => if o.length < 100000000 then some (o ++ [0], kn) else none
  | x :: r, o, kn =>
    if o.length + x.size < 100000000 ∧ kn.length < 100000000 then
      (label_join.f (x :: r)).bind fun nm =>
        if nm.size ≤ 100000000 then
          match look kn nm with
          | some a => some (o ++ [Go.bits .or .u8 192 ((a / 256) % 256), a % 256], kn)
          | none => putM r ((o ++ [(x.size : Int) % 256]) ++ bytesOf x) (kn ++ [(nm, max 0 (min (o.length : Int) 16383))])
        else none
    else none
/-- Block mb holds the known names. -/
def KM (W : World) (mb : Nat) (kn : List (ByteArray × Int)) : Prop :=
  ∃ D : DataW Unit, W.ownsMap Tryd.prog 9 (plainElem Tryd.prog 3) mb kn.length D ∧ ∀ s : ByteArray, Maps.has D (.string s.data.toList) = (look kn s).isSome ∧ ∀ c, look kn s = some c → D.atKey (.string s.data.toList) (.lit (.int .i64 0)) = .lit (.int .i64 c)
theorem KM.kept {w W : World} {S : Nat → Prop} {mb : Nat} {kn : List (ByteArray × Int)} (h : KM w mb kn) (hk : Kept w W S) (hn : ¬ S mb) : KM W mb kn := by
  obtain ⟨D, ⟨es, clock, hb, F, hs, hD⟩, hv⟩ := h
  exact ⟨D, ⟨es, clock, (hk.2 mb (blk_lt hb) hn).trans hb, F, hs, hD⟩, hv⟩
theorem KM.drewN {w : World} {mb : Nat} {kn : List (ByteArray × Int)} (h : KM w mb kn) (n : Nat) : KM (w.drewN n) mb kn := h
theorem look_append (kn : List (ByteArray × Int)) (nm s : ByteArray) (a : Int) (hn : look kn nm = none) : look (kn ++ [(nm, a)]) s = if nm = s then some a else look kn s := by
  unfold look at *
  rw [List.find?_append]
  by_cases h : nm = s
  · subst h
    rw [if_pos rfl]
    have h0 : kn.find? (fun p => decide (p.1 = nm)) = none := by simpa using hn
    rw [h0]
    simp
  · rw [if_neg h]
    have h1 : ([(nm, a)] : List (ByteArray × Int)).find? (fun p => decide (p.1 = s)) = none := by simp [h]
    rw [h1, Option.or_none]
theorem law9 : Keyed Tryd.prog 9 := string_keyed Tryd.underlying9
theorem zero3 (w : World) : (zeroValue 3).run Tryd.prog w = .ok (.int .i64 0) w := by kernel_rfl
theorem data_inj {a b : ByteArray} (h : a.data.toList = b.data.toList) : a = b := by
  cases a; cases b; simp only at h; rw [Array.ext' h]
theorem KM.put {W : World} {mb : Nat} {kn : List (ByteArray × Int)} {nm : ByteArray} {a : Int} {D : DataW Unit} (hv : ∀ s : ByteArray, Maps.has D (.string s.data.toList) = (look kn s).isSome ∧ ∀ c, look kn s = some c → D.atKey (.string s.data.toList) (.lit (.int .i64 0)) = .lit (.int .i64 c))
    (hD : IsMap D) (hn : look kn nm = none) (ho : W.ownsMap Tryd.prog 9 (plainElem Tryd.prog 3) mb (kn.length + 1) (D.put (.string nm.data.toList) (.lit (.int .i64 a)))) : KM W mb (kn ++ [(nm, a)]) := by
  refine ⟨_, by simpa using ho, fun s => ?_⟩
  rw [look_append kn nm s a hn]
  by_cases h : nm = s
  · subst h
    rw [if_pos rfl]
    have hk : WideAt.IsKeyLit (.string nm.data.toList) := trivial
    exact ⟨has_put_same hD hk _, fun c hc => by rw [atKey_put_same hD hk]; cases hc; rfl⟩
  · rw [if_neg h]
    have hne : (Lit.string s.data.toList) ≠ .string nm.data.toList := fun e => h (data_inj (by injection e with e; exact e.symm))
    rw [has_put_other hne, atKey_put_other hne]
    exact hv s
/-- The packer at block g: its bytes (value v), its map (block mb). -/
def PI (w0 w W : World) (S : Nat → Prop) (g mb : Nat) (v : Value) (o : List Int) (kn : List (ByteArray × Int)) : Prop :=
  W.heap[g]? = some (.cells #[v, .map (some mb)] 80 (0, 0)) ∧ Kd.R (Kd.int .u8) 5 W w0.heap.size (fun k => S k ∨ w.heap.size ≤ k) v o ∧ KM W mb kn ∧ Below w0.heap.size w0 W ∧ Kept w W S
theorem KM.cells {W : World} {mb : Nat} {kn : List (ByteArray × Int)} (h : KM W mb kn) {b : Nat} {cs : Array Value} {t : TypeId} {fr : Nat × Nat} (hb : W.heap[b]? = some (.cells cs t fr)) : mb ≠ b := by
  rintro rfl
  obtain ⟨D, ⟨es, clock, hm, _⟩, _⟩ := h
  rw [hm] at hb
  cases hb
theorem KM.row {W : World} {mb base : Nat} {kn : List (ByteArray × Int)} (h : KM W mb kn) {v : Value} {xs : List Int} {ok : Nat → Prop} (ho : Kd.R (Kd.int .u8) 5 W base ok v xs) : some mb ≠ v.ownBlock := by
  intro hk
  obtain ⟨_, _, _, q, _, cells, hc⟩ := (Kd.R_bound ho).1 mb hk.symm
  exact h.cells hc rfl
theorem PI.below {w0 w W W2 : World} {S : Nat → Prop} {g mb : Nat} {v : Value} {o : List Int} {kn : List (ByteArray × Int)} (h : PI w0 w W S g mb v o kn) (hb : Below W.heap.size W W2) : PI w0 w W2 S g mb v o kn := by
  obtain ⟨h1, h2, h3, h4, h5⟩ := h
  exact ⟨blk_below h1 hb, Kd.R_below h2 hb, h3.kept (Kept.of_below hb (fun _ => False)) (fun h => h), below_then h4 h4.size hb, Kept.below h5 hb⟩
theorem PI.stored {w0 w W w1 : World} {S : Nat → Prop} {g mb : Nat} {v v1 : Value} {o o1 : List Int} {kn : List (ByteArray × Int)} (h : PI w0 w W S g mb v o kn) (hSg : S g) (hS0 : ∀ k, S k → w0.heap.size ≤ k)
    (hr : Kd.R (Kd.int .u8) 5 w1 w0.heap.size (fun k => S k ∨ w.heap.size ≤ k) v1 o1) (hb : Below w0.heap.size w0 w1) (hg : W.grownBy w1 v.ownBlock) : PI w0 w (w1.setCell ⟨g, 0, none⟩ v1) S g mb v1 o1 kn := by
  obtain ⟨h1, h2, h3, h4, h5⟩ := h
  have hne := Kd.R_ne h2 h1 (by decide)
  have hm := h3.row h2
  have b1 := blk_grown h1 hg hne
  have k1 : Kept w w1 S := Kept.of_grown hg h5 (fun k e => h2.1 k e)
  have hmg := h3.cells h1
  refine ⟨blk_put b1 0 _ rfl, ?_, ?_, below_set hb (hS0 g hSg), Kept.setCell k1 (.inl hSg) _⟩
  · exact Kd.R_mono (Kd.R_far (p := ⟨g, 0, none⟩) (Kd.R_types hr b1 (by decide)) (fun k hk => hk.2) _) (fun k hk => hk.1)
  · obtain ⟨D, ⟨es, clock, hmb, F, hs, hD⟩, hv⟩ := h3
    refine ⟨D, ⟨es, clock, ?_, F, hs, hD⟩, hv⟩
    rw [Below.heap_setCell w1 ⟨g, 0, none⟩ v1 mb hmg]
    exact (hg.block mb (blk_lt hmb) hm).trans hmb
theorem PI.put {w0 w W W2 : World} {S : Nat → Prop} {g mb : Nat} {v : Value} {o : List Int} {kn kn2 : List (ByteArray × Int)} (h : PI w0 w W S g mb v o kn) (hSm : S mb) (hS0 : ∀ k, S k → w0.heap.size ≤ k) (hg : W.grownBy W2 (some mb)) (hk : KM W2 mb kn2) : PI w0 w W2 S g mb v o kn2 := by
  obtain ⟨h1, h2, h3, h4, h5⟩ := h
  have hm := h3.row h2
  have hmg := h3.cells h1
  refine ⟨blk_grown h1 hg (by intro e; injection e with e; exact hmg e.symm), Kd.R_grown1 h2 rfl hg hm, hk, ?_, Kept.of_grown hg h5 (fun k e => by injection e with e; subst e; exact .inl hSm)⟩
  exact h4.grown hg h4.size (fun k e => by injection e with e; subst e; exact hS0 mb hSm)
theorem row8 {w : World} (xs : List Int) (hl : xs.length ≤ maxLen) : Kd.C (Kd.int .u8) (w.alloc (.cells (xs.map (Value.int .u8)).toArray 5)) (some ⟨w.heap.size, 0, none⟩) xs.length xs := by
  have h : Kd.R (Kd.int .u8) 5 (w.alloc (.cells (xs.map (Value.int .u8)).toArray 5)) w.heap.size (fun _ => True) (.slice (some ⟨w.heap.size, 0, none⟩) xs.length xs.length) xs := by
    refine Kd.R_of_own ⟨?_, .inr ⟨w.heap.size, xs.length, (xs.map (Value.int .u8)).toArray, rfl, Nat.le_refl _, heap_alloc_new _ _, Nat.le_refl _, hl, ?_, ?_⟩⟩ (fun _ _ => trivial)
    · simp [encs]
    · simp
    · simp [encs]
      exact List.take_of_length_le (by simp)
  exact (Kd.R_reads' h).2.2
theorem run_str {P : Program} (w : World) (base : Nat) (t u ty e : TypeId) (i : TypeInfo) (ht : P.underlying t = some (.slice e)) (hu : P.underlying u = some .string) (hi : P.info? e = some i) (hz : i.zero = some (.int .u8 0))
    (hsize : i.size = 1) (hby : i.bytes = 1) (v : Value) (n : Nat) (xs : List Value) (hown : w.ownsRow base e 1 v n xs) (s : ByteArray) (hbytes : n + s.size ≤ 140737488355328) (hbase : base ≤ w.heap.size) :
    ∃ v' w', (Builtin.append_ #[t, u] ty #[v, .string s]).run P w = .ok v' w' ∧ w'.ownsRow base e 1 v' (n + s.size) (xs ++ Lib.strCells s) ∧ w.grownBy w' v.ownBlock ∧ (v'.ownBlock = v.ownBlock ∨ v'.ownBlock = some w.heap.size) := by
  obtain ⟨v', w', hr, h2, h3, h4⟩ := Lib.run_append_own_string (P := P) w base t u ty e i ht hu hi hz hsize hby v n xs hown s (by first | omega | (simp only [maxLen]; omega)) hbytes hbase
  refine ⟨v', w', hr, h2, h3, ?_⟩
  rcases hown.2 with ⟨rfl, rfl⟩ | ⟨g, cap, cur, rfl, hbg, hg, hnc, hcm, hcs, htake⟩
  · by_cases hm : s.size = 0
    · rw [h4.mpr ⟨rfl, hm⟩]; exact .inl rfl
    · have hq := run_append_nil_string (P := P) w t u ty e i (.int .u8 0) ht hu hi hz s (by omega) (by first | omega | (simp only [maxLen]; omega)) (by rw [hby]; omega)
      rw [hr] at hq
      injection hq with e1 e2
      rw [e1]; exact .inr rfl
  · have hxl : xs.length = n := by simpa using hown.1
    by_cases hroom : n + s.size ≤ cap
    · have hcs' : cur.size = cap := by simpa using hcs
      have hq := Lib.run_append_room_string (P := P) w t u ty e i ht hu hi hsize g n cap cur hg s hroom (by omega)
      rw [hr] at hq
      injection hq with e1 e2
      rw [e1]; exact .inl rfl
    · have holds : ∀ j u, xs[j]? = some u → w.cell? ((⟨g, 0, none⟩ : Addr).add j) = some u := hown.cells (g := g) rfl
      have hq := Lib.run_append_grow_string (P := P) w t u ty e i (.int .u8 0) ht hu hi hz ⟨g, 0, none⟩ n cap xs (by rw [hsize]; simpa using hxl) holds s (by omega) (by first | omega | (simp only [maxLen]; omega)) (by rw [hby]; exact growslice_fits (by omega) (by omega))
      rw [hr] at hq
      injection hq with e1 e2
      rw [e1]; exact .inr rfl
section
variable {P : Program} {ops : Array Oper} {o : Oper} {a : Act} {Q : Exit → Act → World → Prop} {Kc : Act → World → Prop}
theorem R_str_step {w0 W : World} (base : Nat) (hw : Region.wanted o (yielded ops a.tmps) = true) (s x : Operand) (t u e : TypeId)
    (ho : o.op = .call { callee := .builtin .append, args := #[s, x], argTypes := #[t, u] })
    (ht : P.underlying t = some (.slice e)) (hu : P.underlying u = some .string) (hinfo : (P.info? e).map (fun i => (i.zero, i.size, i.bytes)) = some (some (.int .u8 0), 1, 1))
    (v : Value) (xs : List Int) (y : ByteArray) (ok : Nat → Prop) (hs : a.eval s = v) (hx : a.eval x = .string y) (hfresh : ∀ k, W.heap.size ≤ k → ok k)
    (HO : (Kd.int .u8).R e W base ok v xs) (HB : Below base w0 W) (hbase : base ≤ W.heap.size) (hl : xs.length + y.size ≤ 140737488355328)
    (h : ∀ v1 w1, (Kd.int .u8).R e w1 base ok v1 (xs ++ bytesOf y) → Below base w0 w1 → W.grownBy w1 v.ownBlock → Kc (a.put o.dst v1) w1) :
    if Region.wanted o (yielded ops a.tmps) = true then Oper.wp P o a W Kc Q else Kc (a.put o.dst undef) W := by
  obtain ⟨i0, hi, hzz⟩ := Option.map_eq_some_iff.1 hinfo
  simp only [Prod.mk.injEq] at hzz
  obtain ⟨hz0, hz1, hz2⟩ := hzz
  rw [if_pos hw]
  have hown := Kd.own_of_R HO
  obtain ⟨v1, w1, hr, h2, h3, h4⟩ := run_str (P := P) W base t u o.type e i0 ht hu hi hz0 hz1 hz2 v xs.length _ hown y hl hbase
  unfold Oper.wp execOp
  simp only [ho, resolve, invoke, builtin, Sem.run_bind, Sem.run_pure, Result.andThen_ok, List.map_toArray, List.map_cons, List.map_nil, hs, hx, hr]
  have hl2 : (xs ++ bytesOf y).length = xs.length + y.size := by rw [List.length_append, bytesOf_length]
  have hc : encs (Value.int .u8) (xs ++ bytesOf y) = encs (Value.int .u8) xs ++ Lib.strCells y := by
    rw [encs_append]
    congr 1
    unfold encs bytesOf Lib.strCells
    simp
  refine h v1 w1 (Kd.R_of_own (by rw [hl2, hc]; exact h2) ?_) (HB.grown h3 hbase (own_base hown)) h3
  intro k hk
  rcases h4 with h4 | h4
  · exact HO.1 k (h4 ▸ hk)
  · rw [h4] at hk; injection hk with hk; exact hfresh k (by omega)
end
theorem u8_w (n : Int) : IntKind.u8.wrap n = n % 256 := by simp [IntKind.wrap_u8]
theorem str_at {w : World} {S : Nat → Prop} {A : Option Addr} {l : List ByteArray} (hl : ∀ W_, Kept w W_ S → Kd.C Kd.string W_ A l.length l) (j : Nat) (hj : j < l.length) : ∃ ad, A = some ad ∧ ∀ W_, Kept w W_ S → W_.cell? (ad.add j) = some (.string l[j]) := by
  obtain ⟨ad, e, _⟩ := Kd.at_string (hl w (Kept.refl _ _)) (j : Int) (by omega) (by omega)
  refine ⟨ad, e, fun W_ hk => ?_⟩
  obtain ⟨ad2, e2, h2⟩ := Kd.at_string (hl W_ hk) (j : Int) (by omega) (by omega)
  rw [e] at e2
  injection e2 with e2
  rw [e2]
  have h3 : rdOf ByteArray.empty l (j : Int) = l[j] := by simp [rdOf, List.getD, List.getElem?_eq_getElem hj]
  rw [h3] at h2
  exact h2
set_option maxHeartbeats 8000000 in
set_option maxRecDepth 100000 in
theorem put_calls (g mb : Nat) (v : Value) (o r1 : List Int) (kn r2 : List (ByteArray × Int)) (A : Option Addr) (c : Nat) (l : List ByteArray) (w0 w : World) (S : Nat → Prop) (hSg : S g) (hSm : S mb) (hS0 : ∀ k, S k → w0.heap.size ≤ k)
    (hB : Below w0.heap.size w0 w) (hbk : w.heap[g]? = some (.cells #[v, .map (some mb)] 80 (0, 0))) (ho : Kd.R (Kd.int .u8) 5 w w0.heap.size S v o) (hkm : KM w mb kn)
    (hl : ∀ W_, Kept w W_ S → Kd.C Kd.string W_ A l.length l) (hc : l.length ≤ c) (hlen : l.length < 100000000) (h : putM l o kn = some (r1, r2)) :
    Calls Tryd.prog 46 #[.pointer (some ⟨g, 0, none⟩), .slice A l.length c] w fun e w' => e = .returned (.tuple #[]) ∧ ∃ v', w'.heap[g]? = some (.cells #[v', .map (some mb)] 80 (0, 0)) ∧
      Kd.R (Kd.int .u8) 5 w' w0.heap.size (fun k => S k ∨ w.heap.size ≤ k) v' r1 ∧ KM w' mb r2 ∧ Below w0.heap.size w0 w' ∧ Kept w w' S := by
  have HL := Aside0.mk hl
  have HC := Aside0.mk hc
  have HH := Aside0.mk h
  have HI := Aside0.mk (show PI w0 w w S g mb v o kn from ⟨hbk, Kd.R_mono ho (fun k hk => Or.inl hk), hkm, hB, Kept.refl _ _⟩)
  have HS := Aside0.mk hS0
  have HSg := Aside0.mk hSg
  have HSm := Aside0.mk hSm
  clear hl hc h ho hkm hB hbk hS0 hSg hSm
  go_enter Tryd.func46, Tryd.ntmps46
  go_wp2_with fail
  go_loopg [10] l.length (fun kq v10 W => ∃ (j : Nat) (v : Value) (o : List Int) (kn : List (ByteArray × Int)), v10 = .int .i64 (j : Int) ∧ Aside0 (j + kq = l.length) ∧ Aside0 (putM (l.drop j) o kn = some (r1, r2)) ∧ Aside0 (PI w0 w W S g mb v o kn))
  case atStart => exact ⟨0, v, o, kn, rfl, ⟨Nat.zero_add _⟩, HH, HI⟩
  case round =>
    clear HH HI
    obtain ⟨j, v, o, kn, rfl, HJ, HP, HI⟩ := hrel
    cases gk with
    | zero =>
      have hj : j = l.length := HJ.out
      have hge : decide (j < l.length) = false := decide_eq_false (by omega)
      have hd : l.drop j = [] := List.drop_eq_nil_of_le (by omega)
      have hp := HP.out
      rw [hd] at hp
      rw [putM] at hp
      have hlo : o.length < 100000000 := by
        by_cases hx : o.length < 100000000
        · exact hx
        · rw [if_neg hx] at hp; cases hp
      rw [if_pos hlo] at hp
      simp only [Option.some.injEq, Prod.mk.injEq] at hp
      have HP2 := Aside0.mk hp
      clear hp hd HP
      have HJ2 := Aside0.mk hj
      clear hj HJ
      have hc0 : wr.cell? ⟨g, 0, none⟩ = some v := (blk_cell HI.out.1 0).trans rfl
      have hf0 : wr.frozen? ⟨g, 0, none⟩ = false := blk_frozen HI.out.1 0
      have hfr : ∀ k, wr.heap.size ≤ k → (S k ∨ w.heap.size ≤ k) := fun k hk => .inr (Nat.le_trans HI.out.2.2.2.2.1 hk)
      have HF := Aside0.mk hfr
      clear hfr
      have hlim : (o.length + 1) * 1 ≤ 140737488355328 := by omega
      have HLim := Aside0.mk hlim
      clear hlim
      go_wp2_with (at_builtin; refine Kd.R_append (Kd.int .u8) (w0 := w0) w0.heap.size rfl (.tmp 86) (.tmp 87) 78 5 (.int .u8 0) 1 rfl Tryd.underlying78 info5 rfl (by decide) (by omega) v o (0 : Int) [.int .u8 0] (fun k => S k ∨ w.heap.size ≤ k) (fun _ => False) rfl rfl ?aP (fun _ hk => hk.elim) HF.out HI.out.2.1 HI.out.2.2.2.1 HI.out.2.2.2.1.size HLim.out ?_; (case aP => exact rfl); intro v1 w1 hr1 hb1 hg1 hat1; obtain ⟨A1, c1, rfl⟩ := Kd.R_slice hr1; have HR1 := Aside0.mk hr1; have HB1 := Aside0.mk hb1; have HG1 := Aside0.mk hg1; have hc1 := (blk_cell (blk_grown HI.out.1 hg1 (Kd.R_ne HI.out.2.1 HI.out.1 (by decide))) 0).trans rfl; have hf1 := blk_frozen (blk_grown HI.out.1 hg1 (Kd.R_ne HI.out.2.1 HI.out.1 (by decide))) 0; clear hr1 hb1 hg1 hat1)
      first | go_end0 | ((try simp only [Exit.inBlock, Exit.then]); refine bodyPost_ret (results_none rfl _ _ _) rfl ?_)
      have HZ := HI.out.stored HSg.out HS.out HR1.out HB1.out HG1.out
      rw [show (o ++ [(0 : Int)]).length = o.length + 1 by simp] at HZ
      obtain ⟨e1, e2⟩ := HP2.out
      subst e1 e2
      exact ⟨rfl, _, HZ⟩
    | succ n =>
      have hj : j < l.length := by have := HJ.out; omega
      have hlt : decide (j < l.length) = true := decide_eq_true hj
      have hd : l.drop j = l[j] :: l.drop (j + 1) := List.drop_eq_getElem_cons hj
      have hp := HP.out
      rw [hd, putM] at hp
      by_cases hg1 : o.length + l[j].size < 100000000 ∧ kn.length < 100000000
      · rw [if_pos hg1] at hp
        obtain ⟨nm, hnm, hp2⟩ := Option.bind_eq_some_iff.mp hp
        by_cases hg2 : nm.size ≤ 100000000
        · rw [if_pos hg2] at hp2
          have HN := Aside0.mk hnm
          have HP2 := Aside0.mk hp2
          have HG1 := Aside0.mk hg1
          have HG2 := Aside0.mk hg2
          clear hnm hp hp2 hg1 hg2 HP
          obtain ⟨i015, hi015, _, hsz15, _⟩ := info_parts info9
          have q15 : (j : Int) ≤ ((l.length : Int) : Int) := by omega
          have q015 : (0 : Int) ≤ (j : Int) := by omega
          have hcut15 := cut_from (P := Tryd.prog) 24 9 .i64 Tryd.underlying24 hi015 1 hsz15 A l.length c (j : Int) q015 q15
          simp only [Int.toNat_natCast] at hcut15
          have hl1 := HL.out wr HI.out.2.2.2.2
          have hr15 := Kd.C_drop (m := j) (c := c) hl1 (by omega) HC.out
          obtain ⟨y, hy⟩ : ∃ y_ : List ByteArray, y_ = l.drop j := ⟨_, rfl⟩
          have hyl : y.length = l.length - j := by rw [hy, List.length_drop]
          obtain ⟨A15, hA15⟩ : ∃ A1, A1 = (if c = j then A else A.map (fun x => x.add (j * 1))) := ⟨_, rfl⟩
          obtain ⟨c15, hc15⟩ : ∃ c1, c1 = c - j := ⟨_, rfl⟩
          have HR15 := Aside0.mk (show Kd.C Kd.string wr A15 y.length y by rw [hA15, hy]; exact hr15)
          have HC15 := Aside0.mk (show y.length ≤ c15 by rw [hyl, hc15]; exact Nat.sub_le_sub_right HC.out _)
          have HN2 := Aside0.mk (show label_join.f y = some nm by rw [hy, hd]; exact HN.out)
          rw [← hA15, ← hyl, ← hc15] at hcut15
          have HJ2 := Aside0.mk hj
          clear hr15 hl1 hi015 hsz15 hc15 hA15 hyl hd HN hy
          rename_i hz15 hb15
          clear hz15 hb15 i015 q15 q015
          go_upto_region 4 with (((with_reducible refine gate_callee (f := 45) rfl ?_); refine goesL_ (some 16) rfl rfl Tryd.func45 (by kernel_rfl) rfl #[.slice A15 y.length c15] rfl (by (try simp only [List.map_toArray, List.map_cons, List.map_nil]); first | done | rfl) ?_; (with_reducible refine (label_join.calls _ _ y nm _ ?side1 ?side2 HN2.out).mono ?_); (case side1 => exact HR15.out); (case side2 => exact HC15.out); rintro e w2 ⟨rfl, hb2⟩; refine ⟨_, rfl, ?_⟩; have HI2 := Aside0.mk (HI.out.below hb2); clear hb2 HI HR15 HC15 HN2))
          obtain ⟨D, hown, hv⟩ := HI2.out.2.2.1
          have hkey := keyOf_string_mk Tryd.underlying9 (s := nm) (by have := HG2.out; unfold maxLen; omega)
          have hc1 : w2.cell? ⟨g, 1, none⟩ = some (.map (some mb)) := (blk_cell HI2.out.1 1).trans rfl
          have hc0 : w2.cell? ⟨g, 0, none⟩ = some v := (blk_cell HI2.out.1 0).trans rfl
          have hf0 : w2.frozen? ⟨g, 0, none⟩ = false := blk_frozen HI2.out.1 0
          have hhas := (hv nm).1
          cases hk : look kn nm with
          | some a =>
            have hat0 := (hv nm).2 a hk
            have hp3 := HP2.out
            rw [hk] at hp3 hhas
            have HP3 := Aside0.mk hp3
            have HV := Aside0.mk hv
            have HD := Aside0.mk hown
            have HK := Aside0.mk hkey
            have HA := Aside0.mk hat0
            have hhas2 : Maps.has D (.string nm.data.toList) = true := hhas
            have HH2 := Aside0.mk hhas2
            clear hp3 HP2 hk hv hown hkey hat0 hhas hhas2
            obtain ⟨x1, hx1⟩ : ∃ x1, x1 = Go.bits .or .u8 192 ((a / 256) % 256) := ⟨_, rfl⟩
            have HX1 := Aside0.mk hx1
            have HIa := Aside0.mk (HI2.out.below (below_alloc (Below.refl w2.heap.size w2) (.cells ([x1, a % 256].map (Value.int .u8)).toArray 5)))
            have HRa := Aside0.mk (row8 (w := w2) [x1, a % 256] (by simp [maxLen]))
            have HFa : Aside0 (∀ k, (w2.alloc (.cells ([x1, a % 256].map (Value.int .u8)).toArray 5)).heap.size ≤ k → (S k ∨ w.heap.size ≤ k)) := ⟨fun k hk => .inr (Nat.le_trans HIa.out.2.2.2.2.1 hk)⟩
            have HLa : Aside0 ((o.length + 2) * 1 ≤ 140737488355328) := ⟨by have := HG1.out.1; omega⟩
            rw [hx1] at HIa HRa HFa
            clear hx1
            go_wp2_with (first
              | (at_lookup; refine wpList_lookup_own_ok_int _ rfl _ _ 77 rfl 9 3 .i64 law9 Tryd.underlying77 Tryd.underlying3 (zero3 _) mb kn.length D rfl HD.out _ _ rfl HK.out ?_; intro cc hat hwc; (obtain rfl : a = cc := (by rw [HA.out] at hat; injection hat with hat; injection hat)); rw [HH2.out]; clear hat hwc)
              | (at_builtin; refine Kd.R_append_row (Value.int .u8) (0 : Int) (h1 := fun _ => rfl) (w0 := w0) w0.heap.size rfl (.tmp 31) (.tmp 38) 78 5 (.int .u8 0) 1 rfl Tryd.underlying78 info5 rfl (by decide) v o [Go.bits .or .u8 192 ((a / 256) % 256), a % 256] (some ⟨w2.heap.size, 0, none⟩) 2 2 (fun k => S k ∨ w.heap.size ≤ k) rfl rfl HFa.out HIa.out.2.1 HRa.out HIa.out.2.2.2.1 HIa.out.2.2.2.1.size HLa.out ?_; intro v1 w1 hr1 hb1 hg1 hat1; obtain ⟨A1, c1, rfl⟩ := Kd.R_slice hr1; have HR1 := Aside0.mk hr1; have HB1 := Aside0.mk hb1; have HGr := Aside0.mk hg1; have hc3 := (blk_cell (blk_grown HIa.out.1 hg1 (Kd.R_ne HIa.out.2.1 HIa.out.1 (by decide))) 0).trans rfl; have hf3 := blk_frozen (blk_grown HIa.out.1 hg1 (Kd.R_ne HIa.out.2.1 HIa.out.1 (by decide))) 0; clear hr1 hb1 hg1 hat1))
            first | go_end0 | ((try simp only [Exit.inBlock, Exit.then]); refine bodyPost_ret (results_none rfl _ _ _) rfl ?_)
            have HZ := HIa.out.stored HSg.out HS.out HR1.out HB1.out HGr.out
            have hp4 : some (o ++ [Go.bits .or .u8 192 ((a / 256) % 256), a % 256], kn) = some (r1, r2) := HP3.out
            simp only [Option.some.injEq, Prod.mk.injEq] at hp4
            obtain ⟨e1, e2⟩ := hp4
            subst e1 e2
            have hlen2 : (o ++ [Go.bits .or .u8 192 ((a / 256) % 256), a % 256]).length = o.length + 2 := by simp
            rw [hlen2] at HZ
            exact ⟨rfl, _, HZ⟩
          | none =>
            have hp3 := HP2.out
            rw [hk] at hp3 hhas
            have HP3 := Aside0.mk hp3
            have HV := Aside0.mk hv
            have HD := Aside0.mk hown
            have HK := Aside0.mk hkey
            have hhas2 : Maps.has D (.string nm.data.toList) = false := hhas
            have HH2 := Aside0.mk hhas2
            have HK0 := Aside0.mk hk
            clear hp3 HP2 hk hv hown hkey hhas hhas2
            obtain ⟨A0, c0, hv0⟩ := Kd.R_slice HI2.out.2.1
            subst hv0
            go_upto_region 7 with (at_lookup; refine wpList_lookup_own_ok_int _ rfl _ _ 77 rfl 9 3 .i64 law9 Tryd.underlying77 Tryd.underlying3 (zero3 _) mb kn.length D rfl HD.out _ _ rfl HK.out ?_; intro cc hat hwc; rw [HH2.out]; clear hat hwc)
            go_still_tail 12, (by kernel_rfl)
            (at_mapUpdate; refine wpList_mapUpdate_own _ rfl _ _ _ 77 rfl 9 3 law9 Tryd.underlying77 _ mb kn.length D rfl HD.out (by have := HG1.out.2; unfold maxLen; omega) _ _ _ rfl rfl HK.out _ [] (plainElem_int Tryd.underlying3 ?wf) ?_)
            case wf => exact WalkArith.wf_i64 (by have := HG1.out.1; omega)
            intro w3 hown3 hgrow3
            have HI3 := Aside0.mk (PI.put (W2 := w3) (kn2 := kn ++ [(nm, max 0 (min (o.length : Int) 16383))]) (HI2.out.below (W2 := w2.drew) (below_drew1 (Below.refl _ _))) HSm.out HS.out hgrow3 (KM.put HV.out HD.out.isMap HK0.out hown3))
            clear hown3 hgrow3 HI2 HV HD HK HH2 HK0
            try go_wp2
            have HId := Aside0.mk (HI3.out.below (W2 := w3.drew) (below_drew1 (Below.refl _ _)))
            obtain ⟨ad, eA, hCl⟩ := str_at HL.out j hj
            have HCl := Aside0.mk hCl
            clear hCl HI3
            subst eA
            refine start_ (n := 16) (S := fun w' => w'.cell? ⟨g, 0, none⟩ = some (.slice A0 o.length c0) ∧ w'.cell? (ad.add j) = some (.string l[j])) (ds := [15]) #[false, false, false, false, false, false, false, false, false, false, false, false, false, false, false, false] (by kernel_rfl) rfl rfl ⟨(blk_cell HId.out.1 0).trans rfl, HCl.out _ HId.out.2.2.2.2⟩ (fun hHeld => ?_)
            generalize w3.drew = w4 at HId hHeld ⊢
            refine pure_ (i := 0) (N := (some 54)) (v := ?_) (a' := ?_) #[true, false, false, false, false, false, false, false, false, false, false, false, false, false, false, false] rfl rfl (by kernel_rfl) (fun _ _ _ h => h) (Or.inl ⟨by rfl, ?_⟩) ?_ ?_
            rotate_left
            · intro w'
              go_simp
              with_reducible rfl
            rotate_left
            · simp only [Act.put, List.setIfInBounds_toArray, List.set_cons_zero, List.set_cons_succ, i64_w, i32_w, u8_w]
              rfl
            refine pure_ (i := 1) (N := (some 55)) (v := ?_) (a' := ?_) #[true, true, false, false, false, false, false, false, false, false, false, false, false, false, false, false] rfl rfl (by kernel_rfl) (fun _ _ _ h => h) (Or.inl ⟨by rfl, ?_⟩) ?_ ?_
            rotate_left
            · intro w'
              go_simp
              with_reducible rfl
            rotate_left
            · simp only [Act.put, List.setIfInBounds_toArray, List.set_cons_zero, List.set_cons_succ, i64_w, i32_w, u8_w]
              rfl
            refine pure_ (i := 2) (N := (some 56)) (v := ?_) (a' := ?_) #[true, true, true, false, false, false, false, false, false, false, false, false, false, false, false, false] rfl rfl (by kernel_rfl) (fun _ _ _ h => h) (Or.inl ⟨by rfl, ?_⟩) ?_ ?_
            rotate_left
            · intro w'
              go_simp
              with_reducible rfl
            rotate_left
            · simp only [Act.put, List.setIfInBounds_toArray, List.set_cons_zero, List.set_cons_succ, i64_w, i32_w, u8_w]
              rfl
            refine pure_ (i := 3) (N := (some 57)) (v := ?_) (a' := ?_) #[true, true, true, true, false, false, false, false, false, false, false, false, false, false, false, false] rfl rfl (by kernel_rfl) (fun _ _ _ h => h) (Or.inl ⟨by rfl, ?_⟩) ?_ ?_
            rotate_left
            · intro w'
              go_simp
              with_reducible rfl
            rotate_left
            · simp only [Act.put, List.setIfInBounds_toArray, List.set_cons_zero, List.set_cons_succ, i64_w, i32_w, u8_w]
              rfl
            refine take_ (i := 4) (N := (some 58)) (v := ?_) (a' := ?_) #[true, true, true, true, true, false, false, false, false, false, false, false, false, false, false, false] rfl rfl (by kernel_rfl) (fun _ _ _ h => h) (Or.inl ⟨by rfl, ?_⟩) hHeld ?_ ?_
            rotate_left
            · rintro w' ⟨s0, s1⟩
              go_simp
              with_reducible rfl
            rotate_left
            · simp only [Act.put, List.setIfInBounds_toArray, List.set_cons_zero, List.set_cons_succ, i64_w, i32_w, u8_w]
              rfl
            refine pure_ (i := 5) (N := (some 59)) (v := ?_) (a' := ?_) #[true, true, true, true, true, true, false, false, false, false, false, false, false, false, false, false] rfl rfl (by kernel_rfl) (fun _ _ _ h => h) (Or.inl ⟨by rfl, ?_⟩) ?_ ?_
            rotate_left
            · intro w'
              go_simp
              with_reducible rfl
            rotate_left
            · simp only [Act.put, List.setIfInBounds_toArray, List.set_cons_zero, List.set_cons_succ, i64_w, i32_w, u8_w]
              rfl
            refine pure_ (i := 6) (N := (some 60)) (v := ?_) (a' := ?_) #[true, true, true, true, true, true, true, false, false, false, false, false, false, false, false, false] rfl rfl (by kernel_rfl) (fun _ _ _ h => h) (Or.inl ⟨by rfl, ?_⟩) ?_ ?_
            rotate_left
            · intro w'
              go_simp
              with_reducible rfl
            rotate_left
            · simp only [Act.put, List.setIfInBounds_toArray, List.set_cons_zero, List.set_cons_succ, i64_w, i32_w, u8_w]
              rfl
            refine pure_ (i := 7) (N := (some 61)) (v := ?_) (a' := ?_) #[true, true, true, true, true, true, true, true, false, false, false, false, false, false, false, false] rfl rfl (by kernel_rfl) (fun _ _ _ h => h) (Or.inl ⟨by rfl, ?_⟩) ?_ ?_
            rotate_left
            · intro w'
              go_simp
              with_reducible rfl
            rotate_left
            · simp only [Act.put, List.setIfInBounds_toArray, List.set_cons_zero, List.set_cons_succ, i64_w, i32_w, u8_w]
              rfl
            refine take_ (i := 8) (N := (some 62)) (v := ?_) (a' := ?_) #[true, true, true, true, true, true, true, true, true, false, false, false, false, false, false, false] rfl rfl (by kernel_rfl) (fun _ _ _ h => h) (Or.inl ⟨by rfl, ?_⟩) hHeld ?_ ?_
            rotate_left
            · rintro w' ⟨s0, s1⟩
              go_simp
              with_reducible rfl
            rotate_left
            · simp only [Act.put, List.setIfInBounds_toArray, List.set_cons_zero, List.set_cons_succ, i64_w, i32_w, u8_w]
              rfl
            refine pure_ (i := 9) (N := (some 63)) (v := ?_) (a' := ?_) #[true, true, true, true, true, true, true, true, true, true, false, false, false, false, false, false] rfl rfl (by kernel_rfl) (fun _ _ _ h => h) (Or.inl ⟨by rfl, ?_⟩) ?_ ?_
            rotate_left
            · intro w'
              go_simp
              with_reducible rfl
            rotate_left
            · simp only [Act.put, List.setIfInBounds_toArray, List.set_cons_zero, List.set_cons_succ, i64_w, i32_w, u8_w]
              rfl
            refine pure_ (i := 10) (N := (some 64)) (v := ?_) (a' := ?_) #[true, true, true, true, true, true, true, true, true, true, true, false, false, false, false, false] rfl rfl (by kernel_rfl) (fun _ _ _ h => h) (Or.inl ⟨by rfl, ?_⟩) ?_ ?_
            rotate_left
            · intro w'
              go_simp
              with_reducible rfl
            rotate_left
            · simp only [Act.put, List.setIfInBounds_toArray, List.set_cons_zero, List.set_cons_succ, i64_w, i32_w, u8_w]
              rfl
            refine one_ (i := 11) (N := (some 65)) #[true, true, true, true, true, true, true, true, true, true, true, true, false, false, false, false] rfl rfl (by kernel_rfl) (by decide) (fun K hK => ?_)
            refine value_ (w1 := ?_) (v := ?_) (by rfl) rfl ?_ ?_
            rotate_left 2
            · go_simp
              constructor
              · rfl
              · rfl
            have HIb := Aside0.mk (HId.out.below (below_alloc (Below.refl w4.heap.size w4) (.cells #[.int .u8 ((l[j].size : Int) % 256)] 5)))
            refine hK.out _ _ ⟨(blk_cell HIb.out.1 0).trans rfl, HCl.out _ HIb.out.2.2.2.2⟩ (fun hHeld => ?_)
            clear hK K
            refine norm_ (a' := ?_) ?_ ?_
            rotate_left
            · show Act.put _ (some 65) _ = _
              simp only [Act.put, List.setIfInBounds_toArray, List.set_cons_zero, List.set_cons_succ, i64_w, i32_w, u8_w]
              rfl
            refine one_ (i := 12) (N := (some 66)) #[true, true, true, true, true, true, true, true, true, true, true, true, true, false, false, false] rfl rfl (by kernel_rfl) (by decide) (fun K hK => ?_)
            have HFr : Aside0 (∀ k, w4.heap.size ≤ k → (S k ∨ w.heap.size ≤ k)) := ⟨fun k hk => .inr (Nat.le_trans HId.out.2.2.2.2.1 hk)⟩
            refine Kd.R_append_step (Kd.int .u8) (w0 := w0) w0.heap.size (by rfl) (.tmp 58) (.tmp 65) 78 5 (.int .u8 0) 1 rfl Tryd.underlying78 info5 rfl (by decide) (by omega) (.slice A0 o.length c0) o ((l[j].size : Int) % 256) [.int .u8 ((l[j].size : Int) % 256)] (fun k => S k ∨ w.heap.size ≤ k) (fun _ => False) rfl rfl ?aP (fun _ hk => hk.elim) HFr.out HId.out.2.1 HId.out.2.2.2.1 HId.out.2.2.2.1.size (by have := HG1.out.1; omega) ?_
            (case aP => exact rfl)
            intro v1 w5 ho hb hg _
            obtain ⟨A1, c1, rfl⟩ := Kd.R_slice ho
            have hc5 := (blk_cell (blk_grown HId.out.1 hg (Kd.R_ne HId.out.2.1 HId.out.1 (by decide))) 0).trans rfl
            have hf5 := blk_frozen (blk_grown HId.out.1 hg (Kd.R_ne HId.out.2.1 HId.out.1 (by decide))) 0
            have HZ := Aside0.mk (HId.out.stored HSg.out HS.out ho hb hg)
            have hl5 := HCl.out w5 (Kept.of_grown hg HId.out.2.2.2.2 (fun k e => HId.out.2.1.1 k e))
            refine hK.out _ _ ⟨hc5, hl5⟩ (fun hHeld => ?_)
            clear hK K
            refine norm_ (a' := ?_) ?_ ?_
            rotate_left
            · show Act.put _ (some 66) _ = _
              simp only [Act.put, List.setIfInBounds_toArray, List.set_cons_zero, List.set_cons_succ, i64_w, i32_w, u8_w]
              rfl
            refine pure_ (i := 13) (N := (some 67)) (v := ?_) (a' := ?_) #[true, true, true, true, true, true, true, true, true, true, true, true, true, true, false, false] rfl rfl (by kernel_rfl) (fun _ _ _ h => h) (Or.inl ⟨by rfl, ?_⟩) ?_ ?_
            rotate_left
            · intro w'
              go_simp
              with_reducible rfl
            rotate_left
            · simp only [Act.put, List.setIfInBounds_toArray, List.set_cons_zero, List.set_cons_succ, i64_w, i32_w, u8_w]
              rfl
            refine pure_ (i := 14) (N := (some 68)) (v := ?_) (a' := ?_) #[true, true, true, true, true, true, true, true, true, true, true, true, true, true, true, false] rfl rfl (by kernel_rfl) (fun _ _ _ h => h) (Or.inl ⟨by rfl, ?_⟩) ?_ ?_
            rotate_left
            · intro w'
              go_simp
              with_reducible rfl
            rotate_left
            · simp only [Act.put, List.setIfInBounds_toArray, List.set_cons_zero, List.set_cons_succ, i64_w, i32_w, u8_w]
              rfl
            refine last_ (i := 15) (N := none) #[true, true, true, true, true, true, true, true, true, true, true, true, true, true, true, true] rfl rfl (by kernel_rfl) (by decide) (fun K hK => ?_)
            have hlz : (o ++ [(l[j].size : Int) % 256]).length = (o ++ [(l[j].size : Int) % 256]).length := rfl
            refine skip_ (w1 := ?_) (by rfl) rfl ?_ ?_
            rotate_left
            · go_simp
              rfl
            refine hK.out _ _ ?_
            clear hK K
            refine done_ (by kernel_rfl) ?_
            -- (8 done)
            have hlz : (o ++ [(l[j].size : Int) % 256]).length = o.length + 1 := by simp
            rw [hlz] at HZ
            obtain ⟨o2, ho2⟩ : ∃ o2, o2 = o ++ [(l[j].size : Int) % 256] := ⟨_, rfl⟩
            rw [← ho2] at HZ hlz
            have HO2 := Aside0.mk hlz
            have HO2e := Aside0.mk ho2
            obtain ⟨w6, hw6⟩ : ∃ w6, w6 = w5.setCell ⟨g, 0, none⟩ (.slice A1 (o.length + 1) c1) := ⟨_, rfl⟩
            rw [← hw6] at HZ ⊢
            clear hw6 hlz ho2 hf5 hc5 hl5 ho hb hg HIb HId HFr
            try go_wp2
            have HIe := Aside0.mk (HZ.out.below (W2 := w6.drew) (below_drew1 (Below.refl _ _)))
            refine start_ (n := 13) (S := fun w' => w'.cell? ⟨g, 0, none⟩ = some (.slice A1 (o.length + 1) c1) ∧ w'.cell? (ad.add j) = some (.string l[j])) (ds := [12]) #[false, false, false, false, false, false, false, false, false, false, false, false, false] (by kernel_rfl) rfl rfl ⟨(blk_cell HIe.out.1 0).trans rfl, HCl.out _ HIe.out.2.2.2.2⟩ (fun hHeld => ?_)
            generalize w6.drew = w8 at HIe hHeld ⊢
            refine pure_ (i := 0) (N := (some 69)) (v := ?_) (a' := ?_) #[true, false, false, false, false, false, false, false, false, false, false, false, false] rfl rfl (by kernel_rfl) (fun _ _ _ h => h) (Or.inl ⟨by rfl, ?_⟩) ?_ ?_
            rotate_left
            · intro w'
              go_simp
              with_reducible rfl
            rotate_left
            · simp only [Act.put, List.setIfInBounds_toArray, List.set_cons_zero, List.set_cons_succ, i64_w, i32_w, u8_w]
              rfl
            refine pure_ (i := 1) (N := (some 70)) (v := ?_) (a' := ?_) #[true, true, false, false, false, false, false, false, false, false, false, false, false] rfl rfl (by kernel_rfl) (fun _ _ _ h => h) (Or.inl ⟨by rfl, ?_⟩) ?_ ?_
            rotate_left
            · intro w'
              go_simp
              with_reducible rfl
            rotate_left
            · simp only [Act.put, List.setIfInBounds_toArray, List.set_cons_zero, List.set_cons_succ, i64_w, i32_w, u8_w]
              rfl
            refine pure_ (i := 2) (N := (some 71)) (v := ?_) (a' := ?_) #[true, true, true, false, false, false, false, false, false, false, false, false, false] rfl rfl (by kernel_rfl) (fun _ _ _ h => h) (Or.inl ⟨by rfl, ?_⟩) ?_ ?_
            rotate_left
            · intro w'
              go_simp
              with_reducible rfl
            rotate_left
            · simp only [Act.put, List.setIfInBounds_toArray, List.set_cons_zero, List.set_cons_succ, i64_w, i32_w, u8_w]
              rfl
            refine pure_ (i := 3) (N := (some 72)) (v := ?_) (a' := ?_) #[true, true, true, true, false, false, false, false, false, false, false, false, false] rfl rfl (by kernel_rfl) (fun _ _ _ h => h) (Or.inl ⟨by rfl, ?_⟩) ?_ ?_
            rotate_left
            · intro w'
              go_simp
              with_reducible rfl
            rotate_left
            · simp only [Act.put, List.setIfInBounds_toArray, List.set_cons_zero, List.set_cons_succ, i64_w, i32_w, u8_w]
              rfl
            refine take_ (i := 4) (N := (some 73)) (v := ?_) (a' := ?_) #[true, true, true, true, true, false, false, false, false, false, false, false, false] rfl rfl (by kernel_rfl) (fun _ _ _ h => h) (Or.inl ⟨by rfl, ?_⟩) hHeld ?_ ?_
            rotate_left
            · rintro w' ⟨s0, s1⟩
              go_simp
              with_reducible rfl
            rotate_left
            · simp only [Act.put, List.setIfInBounds_toArray, List.set_cons_zero, List.set_cons_succ, i64_w, i32_w, u8_w]
              rfl
            refine pure_ (i := 5) (N := (some 74)) (v := ?_) (a' := ?_) #[true, true, true, true, true, true, false, false, false, false, false, false, false] rfl rfl (by kernel_rfl) (fun _ _ _ h => h) (Or.inl ⟨by rfl, ?_⟩) ?_ ?_
            rotate_left
            · intro w'
              go_simp
              with_reducible rfl
            rotate_left
            · simp only [Act.put, List.setIfInBounds_toArray, List.set_cons_zero, List.set_cons_succ, i64_w, i32_w, u8_w]
              rfl
            refine pure_ (i := 6) (N := (some 75)) (v := ?_) (a' := ?_) #[true, true, true, true, true, true, true, false, false, false, false, false, false] rfl rfl (by kernel_rfl) (fun _ _ _ h => h) (Or.inl ⟨by rfl, ?_⟩) ?_ ?_
            rotate_left
            · intro w'
              go_simp
              with_reducible rfl
            rotate_left
            · simp only [Act.put, List.setIfInBounds_toArray, List.set_cons_zero, List.set_cons_succ, i64_w, i32_w, u8_w]
              rfl
            refine pure_ (i := 7) (N := (some 76)) (v := ?_) (a' := ?_) #[true, true, true, true, true, true, true, true, false, false, false, false, false] rfl rfl (by kernel_rfl) (fun _ _ _ h => h) (Or.inl ⟨by rfl, ?_⟩) ?_ ?_
            rotate_left
            · intro w'
              go_simp
              with_reducible rfl
            rotate_left
            · simp only [Act.put, List.setIfInBounds_toArray, List.set_cons_zero, List.set_cons_succ, i64_w, i32_w, u8_w]
              rfl
            refine take_ (i := 8) (N := (some 77)) (v := ?_) (a' := ?_) #[true, true, true, true, true, true, true, true, true, false, false, false, false] rfl rfl (by kernel_rfl) (fun _ _ _ h => h) (Or.inl ⟨by rfl, ?_⟩) hHeld ?_ ?_
            rotate_left
            · rintro w' ⟨s0, s1⟩
              go_simp
              with_reducible rfl
            rotate_left
            · simp only [Act.put, List.setIfInBounds_toArray, List.set_cons_zero, List.set_cons_succ, i64_w, i32_w, u8_w]
              rfl
            refine one_ (i := 9) (N := (some 78)) #[true, true, true, true, true, true, true, true, true, true, false, false, false] rfl rfl (by kernel_rfl) (by decide) (fun K hK => ?_)
            have HFr : Aside0 (∀ k, w8.heap.size ≤ k → (S k ∨ w.heap.size ≤ k)) := ⟨fun k hk => .inr (Nat.le_trans HIe.out.2.2.2.2.1 hk)⟩
            refine R_str_step (w0 := w0) w0.heap.size (by rfl) (.tmp 73) (.tmp 77) 78 9 5 rfl Tryd.underlying78 Tryd.underlying9 info5 (.slice A1 (o.length + 1) c1) o2 l[j] (fun k => S k ∨ w.heap.size ≤ k) rfl rfl HFr.out HIe.out.2.1 HIe.out.2.2.2.1 HIe.out.2.2.2.1.size (by have := HG1.out.1; have := HO2.out; omega) ?_
            intro v1 w7 ho hb hg
            obtain ⟨o3, ho3⟩ : ∃ o3, o3 = o2 ++ bytesOf l[j] := ⟨_, rfl⟩
            rw [← ho3] at ho
            have HO3 := Aside0.mk ho3
            clear ho3
            obtain ⟨A2, c2, rfl⟩ := Kd.R_slice ho
            have hc7 := (blk_cell (blk_grown HIe.out.1 hg (Kd.R_ne HIe.out.2.1 HIe.out.1 (by decide))) 0).trans rfl
            have hf7 := blk_frozen (blk_grown HIe.out.1 hg (Kd.R_ne HIe.out.2.1 HIe.out.1 (by decide))) 0
            have HZ2 := Aside0.mk (HIe.out.stored HSg.out HS.out ho hb hg)
            have hl7 := HCl.out w7 (Kept.of_grown hg HIe.out.2.2.2.2 (fun k e => HIe.out.2.1.1 k e))
            refine hK.out _ _ ⟨hc7, hl7⟩ (fun hHeld => ?_)
            clear hK K
            refine norm_ (a' := ?_) ?_ ?_
            rotate_left
            · show Act.put _ (some 78) _ = _
              simp only [Act.put, List.setIfInBounds_toArray, List.set_cons_zero, List.set_cons_succ, i64_w, i32_w, u8_w]
              rfl
            refine pure_ (i := 10) (N := (some 79)) (v := ?_) (a' := ?_) #[true, true, true, true, true, true, true, true, true, true, true, false, false] rfl rfl (by kernel_rfl) (fun _ _ _ h => h) (Or.inl ⟨by rfl, ?_⟩) ?_ ?_
            rotate_left
            · intro w'
              go_simp
              with_reducible rfl
            rotate_left
            · simp only [Act.put, List.setIfInBounds_toArray, List.set_cons_zero, List.set_cons_succ, i64_w, i32_w, u8_w]
              rfl
            refine pure_ (i := 11) (N := (some 80)) (v := ?_) (a' := ?_) #[true, true, true, true, true, true, true, true, true, true, true, true, false] rfl rfl (by kernel_rfl) (fun _ _ _ h => h) (Or.inl ⟨by rfl, ?_⟩) ?_ ?_
            rotate_left
            · intro w'
              go_simp
              with_reducible rfl
            rotate_left
            · simp only [Act.put, List.setIfInBounds_toArray, List.set_cons_zero, List.set_cons_succ, i64_w, i32_w, u8_w]
              rfl
            refine last_ (i := 12) (N := none) #[true, true, true, true, true, true, true, true, true, true, true, true, true] rfl rfl (by kernel_rfl) (by decide) (fun K hK => ?_)
            refine skip_ (w1 := ?_) (by rfl) rfl ?_ ?_
            rotate_left
            · go_simp
              rfl
            refine hK.out _ _ ?_
            clear hK K
            refine done_ (by kernel_rfl) ?_
            -- (9 done)
            try go_wp2
            have hP := HP3.out
            rw [← HO2e.out, ← HO3.out] at hP
            have HP4 := Aside0.mk hP
            clear hP
            go_roundg n
            case measure => have := HJ.out; omega
            case rel => exact ⟨j + 1, _, o3, _, by first | rfl | (congr 1; omega) | simp, ⟨by have := HJ.out; omega⟩, HP4, HZ2⟩
        · rw [if_neg hg2] at hp2; cases hp2
      · rw [if_neg hg1] at hp; cases hp
/-- What Pack makes of the names. -/
def packM (k : Nat) : List ByteArray → List Int → List (ByteArray × Int) → Option (List Int × Int)
  | [], o, _ => some (o, 0)
  | x :: r, o, kn => (label_Labels.f k x).bind fun t => if t.2 = 0 then (if t.1.length < 100000000 then (putM t.1 o kn).bind fun q => packM k r q.1 q.2 else none) else some ([], t.2)
def label_Pack.f (k : Nat) (l0 : List ByteArray) : Option (ByteArray × Int) :=
  if l0.length ≤ 256 then (packM k l0 [] []).bind fun q => if q.2 = 0 then (if q.1.length ≤ 4096 then some (strOfNums q.1, 0) else some ((⟨#[]⟩ : ByteArray), 2)) else some ((⟨#[]⟩ : ByteArray), q.2) else some ((⟨#[]⟩ : ByteArray), 2)
theorem packM.mono (k : Nat) : ∀ l o kn, LeO (packM k l o kn) (packM (k + 1) l o kn) := by
  intro l
  induction l with
  | nil => intro o kn; exact LeO.refl _
  | cons x r ih =>
    intro o kn
    rw [packM, packM]
    refine LeO.bind (label_Labels.mono _ _) (fun t => ?_)
    refine LeO.ite ?_ (LeO.refl _)
    refine LeO.ite ?_ (LeO.refl _)
    exact LeO.bind (LeO.refl _) (fun q => ih _ _)
theorem label_Pack.mono : ∀ l0 k, LeO (label_Pack.f k l0) (label_Pack.f (k + 1) l0) := by
  intro l0 k
  unfold label_Pack.f
  refine LeO.ite ?_ (LeO.refl _)
  exact LeO.bind (packM.mono k _ _ _) (fun q => LeO.refl _)
/-- The packer at g, between two names. -/
def PJ (w W : World) (g mb : Nat) (v : Value) (o : List Int) (kn : List (ByteArray × Int)) : Prop :=
  W.heap[g]? = some (.cells #[v, .map (some mb)] 80 (0, 0)) ∧ Kd.R (Kd.int .u8) 5 W w.heap.size (fun _ => True) v o ∧ KM W mb kn ∧ Below w.heap.size w W
theorem PJ.below {w W W2 : World} {g mb : Nat} {v : Value} {o : List Int} {kn : List (ByteArray × Int)} (h : PJ w W g mb v o kn) (hb : Below W.heap.size W W2) : PJ w W2 g mb v o kn := by
  obtain ⟨h1, h2, h3, h4⟩ := h
  exact ⟨blk_below h1 hb, Kd.R_below h2 hb, h3.kept (Kept.of_below hb (fun _ => False)) (fun h => h), below_then h4 h4.size hb⟩
theorem own_blk {w : World} {base e n : Nat} {v : Value} {xs : List Value} (h : w.ownsRow base e 1 v n xs) (k : Nat) (hk : v.ownBlock = some k) : ∃ cells, w.heap[k]? = some (.cells cells e (0, 0)) := own_typed h k hk
theorem strs_far {w W W_ : World} {g mb : Nat} {v : Value} {o : List Int} {kn : List (ByteArray × Int)} {t1 : List ByteArray} {base c : Nat} {A : Option Addr} (h : PJ w W g mb v o kn) (hr : Kd.R Kd.string 9 W base (fun _ => True) (.slice A t1.length c) t1)
    (hk : Kept W W_ (fun k => k = g ∨ k = mb ∨ v.ownBlock = some k)) : Kd.C Kd.string W_ A t1.length t1 := by
  have ho := Kd.own_of_R hr
  have hm : W_.ownsRow base 9 1 (.slice A t1.length c) t1.length (encs Value.string t1) := by
    refine own_move ho (fun k e => hk.2 k (own_lt ho k e) ?_)
    obtain ⟨cs, hc⟩ := own_blk ho k e
    rintro (h1 | h1 | h1)
    · subst h1; have := h.1; rw [hc] at this; cases this
    · subst h1; exact h.2.2.1.cells hc rfl
    · obtain ⟨cs2, hc2⟩ := own_blk (Kd.own_of_R h.2.1) k h1
      rw [hc] at hc2; cases hc2
  exact (Kd.R_reads' (Kd.R_of_own (h1 := fun _ => rfl) (ok := fun _ => True) hm (fun _ _ => trivial))).2.2
set_option maxHeartbeats 8000000 in
set_option maxRecDepth 100000 in
theorem label_Pack.calls (k : Nat) (A0 : Option Addr) (c0 : Nat) (l0 : List ByteArray) (r1 : ByteArray) (r2 : Int) (w : World) (hr0 : Kd.C Kd.string w A0 l0.length l0) (hc0 : l0.length ≤ c0) (h : label_Pack.f k l0 = some (r1, r2)) :
    Calls Tryd.prog 21 #[.slice A0 l0.length c0] w fun e w' => e = .returned (.tuple #[.string r1, .int .i64 r2]) ∧ Below w.heap.size w w' := by
  have hmm := @run_makeMap Tryd.prog
  have HR := Aside0.mk hr0
  have HC := Aside0.mk hc0
  clear hr0 hc0
  unfold label_Pack.f at h
  by_cases hl : l0.length ≤ 256
  · rw [if_pos hl] at h
    obtain ⟨⟨q1, q2⟩, hq, h2⟩ := Option.bind_eq_some_iff.mp h
    have HQ := Aside0.mk hq
    have HH := Aside0.mk (show (if q2 = 0 then (if q1.length ≤ 4096 then some (strOfNums q1, 0) else some ((⟨#[]⟩ : ByteArray), 2)) else some ((⟨#[]⟩ : ByteArray), q2)) = some (r1, r2) from h2)
    clear h hq h2
    have hlt : decide (256 < (l0.length : Int)) = false := decide_eq_false (by omega)
    have hlt2 : decide (256 < l0.length) = false := decide_eq_false (by omega)
    have HM : Aside0 (KM (w.alloc (.map #[] 0)) w.heap.size []) := ⟨⟨_, World.ownsMap_made w Tryd.prog 9 (plainElem Tryd.prog 3), fun s => ⟨rfl, fun c hc => by simp [look] at hc⟩⟩⟩
    go_enter Tryd.func21, Tryd.ntmps21
    go_wp2_with (first | ((with_reducible refine gate_dst (N := 14) rfl ?_); (try (refine gate_guard (by rfl) ?_; dsimp only)); refine box_event ?hg (N := 14) ?hd (cs := #[.slice none 0 0, .map (some w.heap.size)]) (t := 80) ?hr ?_; (case hd => rfl); (case hg => rfl); (case hr => first | (go_simp; done) | (go_simp; rfl)); intro g hg w1 hbox hb; have HG := Aside0.mk (show w.heap.size ≤ g by rw [hg]; exact (below_alloc (Below.refl _ _) _).size); have HI := Aside0.mk (show PJ w w1 g w.heap.size (.slice none 0 0) [] [] from ⟨hbox, Kd.R_nil _ _ _ _ _, HM.out.kept (Kept.of_below hb (fun _ => False)) (fun h => h), below_then (below_alloc (Below.refl _ _) _) (below_alloc (Below.refl _ _) _).size hb⟩); clear hg hbox hb HM))
    obtain ⟨mb, hmb⟩ : ∃ mb, mb = w.heap.size := ⟨_, rfl⟩
    have HGm := Aside0.mk (show w.heap.size ≤ mb by omega)
    rw [← hmb] at HI ⊢
    clear hmb
    generalize hv00 : Value.slice none 0 0 = v00 at HI
    clear hv00
    go_loopg [17] l0.length (fun kq v17 W => ∃ (j : Nat) (v : Value) (o : List Int) (kn : List (ByteArray × Int)), v17 = .int .i64 (j : Int) ∧ Aside0 (j + kq = l0.length) ∧ Aside0 (packM k (l0.drop j) o kn = some (q1, q2)) ∧ Aside0 (PJ w W g mb v o kn))
    case atStart => exact ⟨0, _, [], [], rfl, ⟨Nat.zero_add _⟩, HQ, HI⟩
    case round =>
      clear HQ HI
      obtain ⟨j, v, o, kn, rfl, HJ, HP, HI⟩ := hrel
      cases gk with
      | zero =>
        have hj : j = l0.length := HJ.out
        have hge : decide (j < l0.length) = false := decide_eq_false (by omega)
        have hd : l0.drop j = [] := List.drop_eq_nil_of_le (by omega)
        have hp := HP.out
        rw [hd, packM] at hp
        simp only [Option.some.injEq, Prod.mk.injEq] at hp
        obtain ⟨rfl, rfl⟩ := hp
        clear hd HP
        have HJ2 := Aside0.mk hj
        clear hj HJ
        have hc0 : wr.cell? ⟨g, 0, none⟩ = some v := (blk_cell HI.out.1 0).trans rfl
        obtain ⟨A1, c1, rfl⟩ := Kd.R_slice HI.out.2.1
        have hh := HH.out
        rw [if_pos rfl] at hh
        by_cases c4 : o.length ≤ 4096
        · rw [if_pos c4] at hh
          simp only [Option.some.injEq, Prod.mk.injEq] at hh
          obtain ⟨rfl, rfl⟩ := hh
          have hcg : decide (4096 < (o.length : Int)) = false := decide_eq_false (by omega)
          have hcg2 : decide (4096 < o.length) = false := decide_eq_false (by omega)
          have hcv := own_string (P := Tryd.prog) Tryd.underlying78 Tryd.underlying5 Tryd.underlying9 (Kd.own_of_R HI.out.2.1)
          go_wp2
          go_ret2
          exact ⟨rfl, HI.out.2.2.2⟩
        · rw [if_neg c4] at hh
          simp only [Option.some.injEq, Prod.mk.injEq] at hh
          obtain ⟨rfl, rfl⟩ := hh
          have hcg : decide (4096 < (o.length : Int)) = true := decide_eq_true (by omega)
          have hcg2 : decide (4096 < o.length) = true := decide_eq_true (by omega)
          go_wp2
          go_ret2
          exact ⟨rfl, HI.out.2.2.2⟩
      | succ n =>
        have hj : j < l0.length := by have := HJ.out; omega
        have hlt3 : decide (j < l0.length) = true := decide_eq_true hj
        have hd : l0.drop j = l0[j] :: l0.drop (j + 1) := List.drop_eq_getElem_cons hj
        have hp := HP.out
        rw [hd, packM] at hp
        obtain ⟨⟨t1, t2⟩, ht, hp2⟩ := Option.bind_eq_some_iff.mp hp
        have HT := Aside0.mk ht
        have HP2 := Aside0.mk (show (if t2 = 0 then (if t1.length < 100000000 then (putM t1 o kn).bind fun q => packM k (l0.drop (j + 1)) q.1 q.2 else none) else some ([], t2)) = some (q1, q2) from hp2)
        clear ht hp hp2 hd HP
        obtain ⟨ad, eA, hx⟩ := Kd.at_string (Kd.C_below HR.out HI.out.2.2.2) (j : Int) (by omega) (by omega)
        have h3 : rdOf ByteArray.empty l0 (j : Int) = l0[j] := by simp [rdOf, List.getD, List.getElem?_eq_getElem hj]
        rw [h3] at hx
        simp only [Int.toNat_natCast] at hx
        clear h3
        subst eA
        obtain ⟨x, hxx⟩ : ∃ x, x = l0[j] := ⟨_, rfl⟩
        rw [← hxx] at hx HT
        clear hxx
        by_cases c5 : t2 = 0
        · have c5a : (t2 == 0) = true := beq_iff_eq.mpr c5
          have c5b : (t2 != 0) = false := bne_eq_false_iff_eq.mpr c5
          have hp := HP2.out
          rw [if_pos c5] at hp
          by_cases c6 : t1.length < 100000000
          · rw [if_pos c6] at hp
            obtain ⟨⟨o2, kn2⟩, hm, hp2⟩ := Option.bind_eq_some_iff.mp hp
            have HMp := Aside0.mk hm
            have HP3 := Aside0.mk (show packM k (l0.drop (j + 1)) o2 kn2 = some (q1, q2) from hp2)
            have HC6 := Aside0.mk c6
            clear hp hm hp2 HP2 c6 c5
            go_wp2_with (first | ((with_reducible refine gate_callee (f := 12) rfl ?_); refine goesL_ (some 23) rfl rfl Tryd.func12 (by kernel_rfl) rfl #[.string x] rfl (by (try simp only [List.map_toArray, List.map_cons, List.map_nil]); first | done | rfl) ?_; (with_reducible refine (label_Labels.calls k x t1 t2 _ HT.out).mono ?_); rintro e w2 ⟨v0, rfl, ho0, hb⟩; refine ⟨_, rfl, ?_⟩; (obtain ⟨A2, c2, rfl⟩ := Kd.R_slice ho0); have HI2 := Aside0.mk (HI.out.below hb); have HO := Aside0.mk ho0; clear ho0 hb HI))
            refine (put_calls g mb v o o2 kn kn2 A2 c2 t1 w w2 (fun k => k = g ∨ k = mb ∨ v.ownBlock = some k) (.inl rfl) (.inr (.inl rfl)) ?s1 HI2.out.2.2.2 HI2.out.1 ?s2 HI2.out.2.2.1 (fun W_ hk => strs_far HI2.out HO.out hk) ?s3 HC6.out HMp.out).mono ?_
            case s1 =>
              rintro k2 (h1 | h1 | h1)
              · exact h1 ▸ HG.out
              · exact h1 ▸ HGm.out
              · exact own_base (Kd.own_of_R HI2.out.2.1) k2 h1
            case s2 => exact Kd.R_of_own (Kd.own_of_R HI2.out.2.1) (fun k2 h1 => .inr (.inr h1))
            case s3 => exact (Kd.R_reads' HO.out).2.1
            rintro e w3 ⟨rfl, v3, hz1, hz2, hz3, hz4, hz5⟩
            dsimp only
            have HI3 := Aside0.mk (show PJ w w3 g mb v3 o2 kn2 from ⟨hz1, Kd.R_mono hz2 (fun _ _ => trivial), hz3, hz4⟩)
            clear hz1 hz2 hz3 hz4 hz5
            try go_wp2
            go_roundg n
            case measure => have := HJ.out; omega
            case rel => exact ⟨j + 1, v3, o2, kn2, by first | rfl | (congr 1; omega) | simp, ⟨by have := HJ.out; omega⟩, HP3, HI3⟩
          · rw [if_neg c6] at hp; cases hp
        · have c5a : (t2 == 0) = false := beq_eq_false_iff_ne.mpr c5
          have c5b : (t2 != 0) = true := bne_iff_ne.mpr c5
          have hp := HP2.out
          rw [if_neg c5] at hp
          simp only [Option.some.injEq, Prod.mk.injEq] at hp
          obtain ⟨rfl, rfl⟩ := hp
          have hh := HH.out
          rw [if_neg c5] at hh
          simp only [Option.some.injEq, Prod.mk.injEq] at hh
          obtain ⟨rfl, rfl⟩ := hh
          clear HP2 HH c5
          go_wp2_with (first | ((with_reducible refine gate_callee (f := 12) rfl ?_); refine goesL_ (some 23) rfl rfl Tryd.func12 (by kernel_rfl) rfl #[.string x] rfl (by (try simp only [List.map_toArray, List.map_cons, List.map_nil]); first | done | rfl) ?_; (with_reducible refine (label_Labels.calls k x t1 t2 _ HT.out).mono ?_); rintro e w2 ⟨v0, rfl, ho0, hb⟩; refine ⟨_, rfl, ?_⟩; (obtain ⟨A2, c2, rfl⟩ := Kd.R_slice ho0); have HI2 := Aside0.mk (HI.out.below hb); clear ho0 hb HI))
          go_ret2
          exact ⟨rfl, HI2.out.2.2.2⟩
  · rw [if_neg hl] at h
    simp only [Option.some.injEq, Prod.mk.injEq] at h
    obtain ⟨rfl, rfl⟩ := h
    have hlt : decide (256 < (l0.length : Int)) = true := decide_eq_true (by omega)
    have hlt2 : decide (256 < l0.length) = true := decide_eq_true (by omega)
    go_enter Tryd.func21, Tryd.ntmps21
    go_wp2
    go_ret2
    exact ⟨rfl, Below.refl _ _⟩
end Go.Proofs.YtbcocpaeehgmnaaDoor.Lp
