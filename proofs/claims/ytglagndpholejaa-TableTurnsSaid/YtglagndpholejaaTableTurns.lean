/- TableTurns: whatever the table and the number are, the law answers true and leaves memory as it was. -/
import Derived.Test.YtglagndpholejaaTabNo
import Derived.Test.YtglagndpholejaaSat
namespace Go.Proofs.Ytglagndpholejaa.tableTurns
open Go.ChangeShapes Go.WideShapes Go.ChangeAt Go.RowKit Go.Proofs.Ytglagndpholejaa Go.Proofs.Ytglagndpholejaa.Open
set_option linter.unusedVariables false
def OkPost (lx : Nat) (xs ys : List Int) (w : World) (e : Ending) (w' : World) : Prop :=
  (∃ ax cx ay cy, e = .returned (.tuple #[.agg #[.slice ax lx cx, .slice ay lx cy], .int .i64 0]) ∧ RowL .i32 w' ax lx cx (negL lx xs) ∧ RowL .i32 w' ay lx cy (revL lx ys)) ∧ Below w.heap.size w w'
theorem turn_ok (ax : Option Addr) (lx cx : Nat) (xs : List Int) (ay : Option Addr) (ly cy : Nat) (ys : List Int) (w : World) (hx : RowL .i32 w ax lx cx xs) (hy : RowL .i32 w ay ly cy ys) (hok : TabOk lx ly xs)
    (hlow : ∀ j, j < lx → -2147483647 ≤ xs.getD j 0 ∧ xs.getD j 0 ≤ 2147483647) (hb : ∀ j, j < lx → -2147483648 ≤ ys.getD j 0 ∧ ys.getD j 0 ≤ 2147483647) :
    Calls Try.prog 10 #[.agg #[.slice ax lx cx, .slice ay ly cy]] w (OkPost lx xs ys w) := by
  have h0 := hok.1
  refine (turn_yes ax lx cx xs ay ly cy ys w hx hy hok hlow).mono ?_
  rintro e w' ⟨vx, vy, rfl, h1, h2, -, hB⟩
  have b1 : ∀ j, -2147483648 ≤ (negL lx xs).getD j 0 ∧ (negL lx xs).getD j 0 ≤ 2147483647 := fun j => by
    by_cases hj : j < lx
    · rw [negL_at hj]; have := hlow (lx - 1 - j) (by omega); omega
    · rw [List.getD_eq_getElem?_getD, List.getElem?_eq_none (by rw [negL_len]; omega)]; decide
  have b2 : ∀ j, -2147483648 ≤ (revL lx ys).getD j 0 ∧ (revL lx ys).getD j 0 ≤ 2147483647 := fun j => by
    by_cases hj : j < lx
    · rw [revL_at hj]; exact hb _ (by omega)
    · rw [List.getD_eq_getElem?_getD, List.getElem?_eq_none (by rw [revL_len]; omega)]; decide
  rw [negL_cells] at h1
  rw [revL_cells] at h2
  obtain ⟨a, c, rfl, r1⟩ := own_low (zs := negL lx xs) (by rw [negL_len]; exact h1) b1
  obtain ⟨a', c', rfl, r2⟩ := own_low (zs := revL lx ys) (by rw [revL_len]; exact h2) b2
  rw [negL_len] at r1 ⊢
  rw [revL_len] at r2 ⊢
  exact ⟨⟨a, c, a', c', rfl, r1, r2⟩, hB⟩
theorem low_new {w : World} {p q : Int} {b : Nat} (h : CellsAt w b [.int .i32 p, .int .i32 q]) (hp : (Lit.int .i32 p).wf = true) (hq : (Lit.int .i32 q).wf = true) : RowL .i32 w (some ⟨b, 0, none⟩) 2 2 [p, q] := by
  refine ⟨Nat.le_refl _, by unfold maxLen; omega, fun _ => ⟨b, 0, rfl, fun i hi => ?_⟩, fun i => ?_⟩
  · rcases (by omega : i = 0 ∨ i = 1) with rfl | rfl
    · exact h.at_ 0 rfl
    · exact h.at_ 1 rfl
  · match i with
    | 0 => exact hp
    | 1 => exact hq
    | i + 2 => rw [List.getD_eq_getElem?_getD, List.getElem?_eq_none (by simp)]; decide
theorem row_lens {w : World} {a : Option Addr} {len cap : Nat} {zs : List Int} (h : RowL .i32 w a len cap zs) (hl : len ≤ zs.length) (h0 : 0 < len) : IntsAt .i32 w (.slice a len cap) (zs.take len) := by
  have e : (zs.take len).length = len := by simp; omega
  obtain ⟨b, off, rfl, h1, h2, -, h3, -⟩ := h.pos h0
  unfold Go.maxLen at h2
  refine .inr ⟨by omega, b, off, cap, by rw [e], by omega, by omega, fun i hi => ?_⟩
  rw [h3 i (by omega)]
  congr 2
  rw [List.getD_eq_getElem?_getD, List.getD_eq_getElem?_getD, List.getElem?_take_of_lt (by omega)]
theorem ints_new {K : IntKind} {E : TypeId} (w : World) (xs : List Int) (cs : Array Value) (hcs : cs.toList = xs.map (.int K)) (hn : cs.size = xs.length) (hm : xs.length ≤ maxLen) : IntsAt K (w.alloc (.cells cs E)) (.slice (some ⟨w.heap.size, 0, none⟩) xs.length xs.length) xs :=
  own_ints' (E := E) (base := w.heap.size) (by rw [← hcs]; exact own_new w cs xs.length (by omega) hm)
theorem negL_congr {n : Nat} {xs ys : List Int} (h : ∀ j, j < n → xs.getD j 0 = ys.getD j 0) : negL n xs = negL n ys := by
  unfold negL downL
  rw [List.map_map, List.map_map]
  refine List.map_congr_left fun j hj => ?_
  have hj' := List.mem_range.1 hj
  show -(xs.getD (n - 1 - j) 0) = -(ys.getD (n - 1 - j) 0)
  rw [h _ (by omega)]
theorem revL_congr {n : Nat} {xs ys : List Int} (h : ∀ j, j < n → xs.getD j 0 = ys.getD j 0) : revL n xs = revL n ys := by
  unfold revL downL
  rw [List.map_map, List.map_map]
  refine List.map_congr_left fun j hj => ?_
  have hj' := List.mem_range.1 hj
  show xs.getD (n - 1 - j) 0 = ys.getD (n - 1 - j) 0
  rw [h _ (by omega)]
theorem getD_take {n j : Nat} {xs : List Int} (h : j < n) : xs.getD j 0 = (xs.take n).getD j 0 := by
  rw [List.getD_eq_getElem?_getD, List.getD_eq_getElem?_getD, List.getElem?_take_of_lt h]
theorem neg_take {n : Nat} {xs : List Int} (h : n ≤ xs.length) : (negL n (negL n xs)).take n = xs.take n := by
  have e : (xs.take n).length = n := by simp; omega
  rw [List.take_of_length_le (by rw [negL_len]; exact Nat.le_refl _), negL_congr (xs := xs) (ys := xs.take n) (fun j hj => getD_take hj), neg_neg e]
theorem rev_take {n : Nat} {xs : List Int} (h : n ≤ xs.length) : (revL n (revL n xs)).take n = xs.take n := by
  have e : (xs.take n).length = n := by simp; omega
  rw [List.take_of_length_le (by rw [revL_len]; exact Nat.le_refl _), revL_congr (xs := xs) (ys := xs.take n) (fun j hj => getD_take hj), rev_rev e]
abbrev litN : List Int := [-2, -1]
abbrev litR : List Int := [6, 5]
theorem lit_neg : negL 2 [1, 2] = litN := by decide
theorem lit_rev : revL 2 [5, 6] = litR := by decide
def LitPost (w : World) (e : Ending) (w' : World) : Prop :=
  (∃ ax cx ay cy, e = .returned (.tuple #[.agg #[.slice ax 2 cx, .slice ay 2 cy], .int .i64 0]) ∧ RowL .i32 w' ax 2 cx litN ∧ RowL .i32 w' ay 2 cy litR) ∧ Below w.heap.size w w'
theorem turn_lit (b c : Nat) (w : World) (h1 : CellsAt w b [.int .i32 1, .int .i32 2]) (h2 : CellsAt w c [.int .i32 5, .int .i32 6]) :
    Calls Try.prog 10 #[.agg #[.slice (some ⟨b, 0, none⟩) 2 2, .slice (some ⟨c, 0, none⟩) 2 2]] w (LitPost w) := by
  have K0 : TabOk 2 2 [1, 2] := ⟨by decide, by decide, rfl, by intro i hi; rcases (by omega : i = 0) with rfl; decide⟩
  refine (turn_ok _ 2 2 [1, 2] _ 2 2 [5, 6] _ (low_new h1 (by decide) (by decide)) (low_new h2 (by decide) (by decide)) K0 (by decide) (by decide)).mono ?_
  rintro e w1 h
  rw [OkPost, lit_neg, lit_rev] at h
  exact h
def Post (w : World) (e : Ending) (w' : World) : Prop := e = .returned (.bool true) ∧ Below w.heap.size w w'
set_option maxHeartbeats 8000000 in
set_option maxRecDepth 100000 in
theorem way (ax : Option Addr) (lx cx : Nat) (xs : List Int) (ay : Option Addr) (ly cy : Nat) (ys : List Int) (x : Int) (w : World) (hx : RowL .i32 w ax lx cx xs) (hy : RowL .i32 w ay ly cy ys) (hlx : lx ≤ xs.length) (hly : ly ≤ ys.length) (hbx : -2147483648 ≤ x ∧ x ≤ 2147483647)
    (hwx : ∀ j, -2147483648 ≤ xs.getD j 0 ∧ xs.getD j 0 ≤ 2147483647) (hwy : ∀ j, -2147483648 ≤ ys.getD j 0 ∧ ys.getD j 0 ≤ 2147483647) :
    Calls Try.prog 3 #[.agg #[.slice ax lx cx, .slice ay ly cy], .int .i32 x] w (Post w) := by
  have HX := Lib.hid hx; have HY := Lib.hid hy; have HWX := Lib.hid hwx; have HWY := Lib.hid hwy; have HM := hy.maxLen
  have F0 : Hid (CellsAt (((w.alloc (.cells #[.slice ax lx cx, .slice ay ly cy] TTab)).alloc (.cells #[.int .i32 1, .int .i32 2] TI32)).alloc (.cells #[.int .i32 5, .int .i32 6] TI32)) w.heap.size [.slice ax lx cx, .slice ay ly cy]) := ((CellsAt.new w _ _ _ rfl).alloc _).alloc _
  have F1 : Hid (CellsAt (((w.alloc (.cells #[.slice ax lx cx, .slice ay ly cy] TTab)).alloc (.cells #[.int .i32 1, .int .i32 2] TI32)).alloc (.cells #[.int .i32 5, .int .i32 6] TI32)) (w.heap.size + 1) [.int .i32 1, .int .i32 2]) := (CellsAt.new' (by simp) rfl : CellsAt _ _ _).alloc _
  have F2 : Hid (CellsAt (((w.alloc (.cells #[.slice ax lx cx, .slice ay ly cy] TTab)).alloc (.cells #[.int .i32 1, .int .i32 2] TI32)).alloc (.cells #[.int .i32 5, .int .i32 6] TI32)) (w.heap.size + 1 + 1) [.int .i32 5, .int .i32 6]) := CellsAt.new' (by simp) rfl
  have FB : Hid (Below w.heap.size w (((w.alloc (.cells #[.slice ax lx cx, .slice ay ly cy] TTab)).alloc (.cells #[.int .i32 1, .int .i32 2] TI32)).alloc (.cells #[.int .i32 5, .int .i32 6] TI32))) := (((Below.refl w.heap.size w).alloc (Nat.le_refl _) _).alloc (by simp) _).alloc (by simp; omega) _
  clear hx hy hwx hwy
  go_enter Try.func3, Try.ntmps3
  go_wp2_with fail
  refine (turn_lit _ _ _ F1.out F2.out).mono ?_
  rintro e w1 ⟨⟨a1, c1, a2, c2, rfl, R1, R2⟩, hb1⟩
  have B1 := Lib.hid (FB.out.trans (hb1.mono FB.out.size)); have T1 := Lib.hid (F0.out.call hb1)
  have HR1 := Lib.hid R1; have HR2 := Lib.hid R2
  clear hb1 R1 R2 FB F0 F1 F2
  go_upto_region 2 with (fail)
  have hn1 : Below w1.heap.size w1 (w1.alloc (.cells #[.slice a1 2 c1, .slice a2 2 c2] TTab)) := (Below.refl _ _).alloc (Nat.le_refl _) _
  have B2 := Lib.hid (B1.out.trans (hn1.mono B1.out.size)); have T2 := Lib.hid (T1.out.call hn1)
  have U2 := Lib.hid (CellsAt.new w1 [.slice a1 2 c1, .slice a2 2 c2] #[.slice a1 2 c1, .slice a2 2 c2] TTab rfl)
  have R1 := Lib.hid (HR1.out.later hn1); have R2 := Lib.hid (HR2.out.later hn1)
  clear hn1 B1 T1 HR1 HR2
  generalize w1.alloc (.cells #[.slice a1 2 c1, .slice a2 2 c2] TTab) = w2 at *
  have u0 := U2.out.at_ 0 rfl; have u1 := U2.out.at_ 1 rfl; have uz := U2.out.lt
  have L1 : Hid (IntsAt .i32 (w2.alloc (.cells #[.int .i32 (-2), .int .i32 (-1)] TI32)) (.slice (some ⟨w2.heap.size, 0, none⟩) 2 2) litN) := ints_new (E := TI32) (K := .i32) w2 litN #[.int .i32 (-2), .int .i32 (-1)] rfl rfl (by decide)
  have R1' : Hid (IntsAt .i32 (w2.alloc (.cells #[.int .i32 (-2), .int .i32 (-1)] TI32)) (.slice a1 2 c1) litN) := row_lens (R1.out.later ((Below.refl _ _).alloc (Nat.le_refl _) _)) (by decide) (by decide)
  go_wp2_with fail
  refine (equal_i32 litN litN _ _ _ R1'.out L1.out (by decide) (by decide)).mono ?_
  rintro e w3 ⟨m3, rfl, rfl⟩
  rw [show decide (litN = litN) = true from by decide]
  have hd3 : Below w2.heap.size w2 ((w2.alloc (.cells #[.int .i32 (-2), .int .i32 (-1)] TI32)).drewN m3) := below_drewN ((Below.refl _ _).alloc (Nat.le_refl _) _) m3
  have B3 := Lib.hid (B2.out.trans (hd3.mono B2.out.size)); have T3 := Lib.hid (T2.out.call hd3); have U3 := Lib.hid (U2.out.call hd3)
  have R2' := Lib.hid (R2.out.later hd3)
  clear hd3 u0 u1 uz L1 R1' R1 R2 B2 T2 U2
  generalize (w2.alloc (.cells #[.int .i32 (-2), .int .i32 (-1)] TI32)).drewN m3 = w4 at *
  have u0 := U3.out.at_ 0 rfl; have u1 := U3.out.at_ 1 rfl; have uz := U3.out.lt
  have L2 : Hid (IntsAt .i32 (w4.alloc (.cells #[.int .i32 6, .int .i32 5] TI32)) (.slice (some ⟨w4.heap.size, 0, none⟩) 2 2) litR) := ints_new (E := TI32) (K := .i32) w4 litR #[.int .i32 6, .int .i32 5] rfl rfl (by decide)
  have R3' : Hid (IntsAt .i32 (w4.alloc (.cells #[.int .i32 6, .int .i32 5] TI32)) (.slice a2 2 c2) litR) := row_lens (R2'.out.later ((Below.refl _ _).alloc (Nat.le_refl _) _)) (by decide) (by decide)
  go_wp2_with fail
  refine (equal_i32 litR litR _ _ _ R3'.out L2.out (by decide) (by decide)).mono ?_
  rintro e w5 ⟨m5, rfl, rfl⟩
  rw [show decide (litR = litR) = true from by decide]
  have hd5 : Below w4.heap.size w4 ((w4.alloc (.cells #[.int .i32 6, .int .i32 5] TI32)).drewN m5) := below_drewN ((Below.refl _ _).alloc (Nat.le_refl _) _) m5
  have B5 := Lib.hid (B3.out.trans (hd5.mono B3.out.size)); have T5 := Lib.hid (T3.out.call hd5)
  clear hd5 u0 u1 uz L2 R3' R2' B3 T3 U3
  generalize (w4.alloc (.cells #[.int .i32 6, .int .i32 5] TI32)).drewN m5 = w6 at *
  have t0 := T5.out.at_ 0 rfl; have t1 := T5.out.at_ 1 rfl; have tz := T5.out.lt
  have z6 := B5.out.size
  by_cases hgo : TabOk lx ly xs ∧ xs.getD 0 0 ≠ -2147483648
  · obtain ⟨hok, hne⟩ := hgo
    obtain ⟨k1, k2, rfl, hris⟩ := hok
    have HOK : Hid (TabOk lx lx xs) := (⟨k1, k2, rfl, hris⟩ : TabOk lx lx xs)
    have hlow : ∀ j, j < lx → -2147483647 ≤ xs.getD j 0 ∧ xs.getD j 0 ≤ 2147483647 := fun j hj => by
      have h1 := HWX.out j; have h2 := HWX.out 0; have h3 := rising_le hris (i := 0) (j := j) (by omega) hj
      omega
    have HLO := Lib.hid hlow; have HRI := Lib.hid hris
    clear hne hris hlow
    go_wp2_with fail
    refine (turn_ok _ _ _ xs _ _ _ ys _ (HX.out.later B5.out) (HY.out.later B5.out) HOK.out HLO.out (fun j _ => HWY.out j)).mono ?_
    rintro e w7 ⟨⟨a3, c3, a4, c4, rfl, P1, P2⟩, hb7⟩
    have B7 := Lib.hid (B5.out.trans (hb7.mono z6)); have T7 := Lib.hid (T5.out.call hb7)
    have HP1 := Lib.hid P1; have HP2 := Lib.hid P2
    clear hb7 P1 P2 t0 t1 tz B5 T5
    by_cases hxl : x = -2147483648
    · subst hxl
      go_wp2
      go_ret
      exact ⟨rfl, B7.out.alloc B7.out.size _⟩
    · have dx : (x == -2147483648) = false := by simpa using hxl
      have fx : IntKind.i32.wrap (-x) = -x := IntWalk.i32_in _ (by omega)
      have HXL := Lib.hid hxl
      clear hxl
      go_upto_region 5 with (fail)
      have hn7 : Below w7.heap.size w7 (w7.alloc (.cells #[.slice a3 lx c3, .slice a4 lx c4] TTab)) := (Below.refl _ _).alloc (Nat.le_refl _) _
      have B8 := Lib.hid (B7.out.trans (hn7.mono B7.out.size)); have T8 := Lib.hid (T7.out.call hn7)
      have U8 := Lib.hid (CellsAt.new w7 [.slice a3 lx c3, .slice a4 lx c4] #[.slice a3 lx c3, .slice a4 lx c4] TTab rfl)
      have P1 := Lib.hid (HP1.out.later hn7); have P2 := Lib.hid (HP2.out.later hn7)
      clear hn7 B7 T7 HP1 HP2
      generalize hw8 : w7.alloc (.cells #[.slice a3 lx c3, .slice a4 lx c4] TTab) = w8 at *
      have hz8 : w8.heap.size = w7.heap.size + 1 := by rw [← hw8]; simp
      clear hw8
      have u0 := U8.out.at_ 0 rfl; have u1 := U8.out.at_ 1 rfl; have uz := U8.out.lt
      have bN : ∀ j, j < lx → -2147483647 ≤ (negL lx xs).getD j 0 ∧ (negL lx xs).getD j 0 ≤ 2147483647 := fun j hj => by
        rw [negL_at hj]; have := HLO.out (lx - 1 - j) (by omega); omega
      have HBN := Lib.hid bN
      clear bN
      have HN : Hid (TabOk lx lx (negL lx xs)) := (⟨k1, k2, rfl, rising_neg HRI.out⟩ : TabOk lx lx (negL lx xs))
      go_wp2_with fail
      refine (turn_ok _ _ _ (negL lx xs) _ _ _ (revL lx ys) _ P1.out P2.out HN.out HBN.out (fun j hj => by rw [revL_at hj]; exact HWY.out _)).mono ?_
      rintro e w9 ⟨⟨a5, c5, a6, c6, rfl, V1, V2⟩, hb9⟩
      have B9 := Lib.hid (B8.out.trans (hb9.mono B8.out.size)); have T9 := Lib.hid (T8.out.call hb9); have U9 := Lib.hid (U8.out.call hb9)
      have Q1 := Lib.hid (P1.out.later hb9); have Q2 := Lib.hid (P2.out.later hb9)
      have HV1 := Lib.hid V1; have HV2 := Lib.hid V2
      clear hb9 u0 u1 uz B8 T8 U8 P1 P2 V1 V2
      go_upto_region 8 with (fail)
      have hn9 : Below w9.heap.size w9 (w9.alloc (.cells #[.slice a5 lx c5, .slice a6 lx c6] TTab)) := (Below.refl _ _).alloc (Nat.le_refl _) _
      have B10 := Lib.hid (B9.out.trans (hn9.mono B9.out.size)); have T10 := Lib.hid (T9.out.call hn9); have U10 := Lib.hid (U9.out.call hn9)
      have Y10 := Lib.hid (CellsAt.new w9 [.slice a5 lx c5, .slice a6 lx c6] #[.slice a5 lx c5, .slice a6 lx c6] TTab rfl)
      have X1 := Lib.hid (Q1.out.later hn9); have X2 := Lib.hid (Q2.out.later hn9)
      have V1 := Lib.hid (HV1.out.later hn9); have V2 := Lib.hid (HV2.out.later hn9)
      clear hn9 B9 T9 U9 Q1 Q2 HV1 HV2
      generalize w9.alloc (.cells #[.slice a5 lx c5, .slice a6 lx c6] TTab) = w10 at *
      have t0 := T10.out.at_ 0 rfl; have t1 := T10.out.at_ 1 rfl; have tz := T10.out.lt
      obtain ⟨v, hv⟩ : ∃ v, atI xs ys lx x = v := ⟨_, rfl⟩
      have HVV := Lib.hid hv
      have hvb := at_bd HRI.out k1 x HWY.out
      rw [hv] at hvb
      clear hv
      go_wp2_with fail
      refine (at_yes _ _ _ xs _ _ _ ys _ _ (HX.out.later B10.out) (HY.out.later B10.out) hbx HOK.out v HVV.out).mono ?_
      rintro e w11 ⟨rfl, hb11⟩
      have B11 := Lib.hid (B10.out.trans (hb11.mono B10.out.size)); have T11 := Lib.hid (T10.out.call hb11); have U11 := Lib.hid (U10.out.call hb11); have Y11 := Lib.hid (Y10.out.call hb11)
      have X3 := Lib.hid (X1.out.later hb11); have X4 := Lib.hid (X2.out.later hb11); have V3 := Lib.hid (V1.out.later hb11); have V4 := Lib.hid (V2.out.later hb11)
      clear hb11 t0 t1 tz B10 T10 U10 Y10 X1 X2 V1 V2
      have u0 := U11.out.at_ 0 rfl; have u1 := U11.out.at_ 1 rfl; have uz := U11.out.lt
      go_wp2_with fail
      refine (at_yes _ _ _ (negL lx xs) _ _ _ (revL lx ys) _ _ X3.out X4.out (by have := HXL.out; omega) HN.out v ((at_turn HRI.out k1 x).trans HVV.out)).mono ?_
      rintro e w12 ⟨rfl, hb12⟩
      have B12 := Lib.hid (B11.out.trans (hb12.mono B11.out.size)); have T12 := Lib.hid (T11.out.call hb12); have Y12 := Lib.hid (Y11.out.call hb12)
      have V5 := Lib.hid (V3.out.later hb12); have V6 := Lib.hid (V4.out.later hb12)
      clear hb12 u0 u1 uz B11 T11 U11 Y11 X3 X4 V3 V4
      have t0 := T12.out.at_ 0 rfl; have t1 := T12.out.at_ 1 rfl; have tz := T12.out.lt
      have y0 := Y12.out.at_ 0 rfl; have y1 := Y12.out.at_ 1 rfl; have yz := Y12.out.lt
      have I1 : Hid (IntsAt .i32 w12 (.slice a5 lx c5) (xs.take lx)) := by
        have h := row_lens V5.out (by rw [negL_len]; exact Nat.le_refl _) k1
        rw [neg_take hlx] at h
        exact h
      have I2 : Hid (IntsAt .i32 w12 (.slice a6 lx c6) (ys.take lx)) := by
        have h := row_lens V6.out (by rw [revL_len]; exact Nat.le_refl _) k1
        rw [rev_take hly] at h
        exact h
      have I3 : Hid (IntsAt .i32 w12 (.slice ax lx cx) (xs.take lx)) := row_lens (HX.out.later B12.out) hlx k1
      have I4 : Hid (IntsAt .i32 w12 (.slice ay lx cy) (ys.take lx)) := row_lens (HY.out.later B12.out) hly k1
      have hl1 : (xs.take lx).length ≤ 9223372036854775807 := by simp; omega
      have hl2 : (ys.take lx).length ≤ 9223372036854775807 := by simp; omega
      go_wp2_with fail
      refine (equal_i32 (xs.take lx) (xs.take lx) _ _ _ I1.out I3.out hl1 hl1).mono ?_
      rintro e w13 ⟨m13, rfl, rfl⟩
      rw [show decide (xs.take lx = xs.take lx) = true from decide_eq_true rfl]
      go_wp2_with fail
      refine (equal_i32 (ys.take lx) (ys.take lx) _ _ _ (by exact I2.out) (by exact I4.out) hl2 hl2).mono ?_
      rintro e w14 ⟨m14, rfl, rfl⟩
      rw [show decide (ys.take lx = ys.take lx) = true from decide_eq_true rfl]
      go_wp2_with fail
      refine (apart_any v v hvb hvb _).mono ?_
      rintro e w15 ⟨rfl, rfl⟩
      have ha : apartI v v = 0 := by unfold apartI absI; omega
      go_wp2
      go_ret
      exact ⟨rfl, by have := B12.out; repeat (first | with_reducible exact Below.refl _ _ | with_reducible exact this | ((with_reducible refine Below.setCell ?_ ?_ _); rotate_left; (· first | (simp; done) | omega | (simp; omega))) | with_reducible refine below_drewN ?_ _ | with_reducible refine Below.drew ?_ | ((with_reducible refine Below.alloc ?_ ?_ _); rotate_left; (· first | (simp; done) | omega | (simp; omega))) | exact Below.refl _ _ | exact this | refine Below.setCell ?_ (by first | (simp; done) | omega | (simp; omega)) _ | refine below_drewN ?_ _ | refine Below.drew ?_ | refine Below.alloc ?_ (by first | (simp; done) | omega | (simp; omega)) _)⟩
  · have HNO : Hid (Calls Try.prog 10 #[.agg #[.slice ax lx cx, .slice ay ly cy]] w6 (TurnNone w6)) := by
      by_cases hc : tabChk lx ly xs = 0
      · have hok := tabChk_ok.1 hc
        exact turn_least _ _ _ xs _ _ _ _ (HX.out.later B5.out) HM hok (Classical.byContradiction fun h => hgo ⟨hok, h⟩)
      · exact turn_no _ _ _ xs _ _ _ _ (HX.out.later B5.out) HM _ rfl hc
    clear hgo
    go_wp2_with fail
    refine HNO.out.mono ?_
    rintro e w7 ⟨⟨r, hr, rfl⟩, hb7⟩
    have B7 := Lib.hid (B5.out.trans (hb7.mono z6))
    have hrb : (r == 0) = false := by simpa using hr
    have hrc : (!(r == 0)) = true := by rw [hrb]; rfl
    have hrd : (r != 0) = true := by simpa using hr
    clear hb7 hr t0 t1 tz B5 T5
    go_wp2
    go_ret
    exact ⟨rfl, B7.out.alloc B7.out.size _⟩
theorem law (ax : Option Addr) (lx cx : Nat) (xs : List Int) (ay : Option Addr) (ly cy : Nat) (ys : List Int) (x : Int) (w : World) (hx : Open.IsRow .i32 w ax lx cx xs) (hy : Open.IsRow .i32 w ay ly cy ys) (hbx : -2147483648 ≤ x ∧ x ≤ 2147483647) :
    Calls Try.prog 3 #[.agg #[.slice ax lx cx, .slice ay ly cy], .int .i32 x] w fun e w' => e = .returned (.bool true) ∧ Below w.heap.size w w' := by
  have hlen : ∀ {a : Option Addr} {len cap : Nat} {zs : List Int}, Open.IsRow .i32 w a len cap zs → len ≤ zs.length := fun h => by
    rcases h with ⟨-, rfl, -, -⟩ | ⟨x, -, h1, -, h2, -⟩ <;> omega
  have hbd : ∀ {a : Option Addr} {len cap : Nat} {zs : List Int}, Open.IsRow .i32 w a len cap zs → ∀ j, -2147483648 ≤ zs.getD j 0 ∧ zs.getD j 0 ≤ 2147483647 := fun {a len cap zs} h j => by
    by_cases hj : j < zs.length
    · rw [List.getD_eq_getElem?_getD, List.getElem?_eq_getElem hj]; exact isRow_bd h _ (List.getElem_mem hj)
    · rw [List.getD_eq_getElem?_getD, List.getElem?_eq_none (by omega)]; decide
  exact way ax lx cx xs ay ly cy ys x w (IsRow.low hx) (IsRow.low hy) (hlen hx) (hlen hy) hbx (hbd hx) (hbd hy)
set_option maxRecDepth 100000 in
theorem lifted (os : Os) (started : os.Started) (H : Type) (enc : TypeId × Value → H) :
    ReturnsInHanded {} Try.checked os 3 .any (Rows.tableTurnsSpec.pre6 enc Try.prog Try.f3 Rows.tableTurnsRow.domain false) (Rows.tableTurnsSpec.post enc Try.prog Try.f3 false true false false) := by
  refine returnsInHanded_of_change (C := Try.checked) own started (by kernel_rfl) Try.func3
    (ChangeSpec.witness6 (enc := enc) (C := Try.checked) false ⟨#[], #[.agg #[.slice none 0 0, .slice none 0 0], .int .i32 0], []⟩ 8 (by kernel_rfl) (by kernel_rfl) (by kernel_rfl) (by kernel_rfl)) ?_
  intro W base args ds gs before hval0 hW hcnd _
  have hval : ∀ (j : Nat) t v, Try.f3.params[j]? = some t → args[j]? = some v → Value.okWide Try.prog W .any base t v := hval0
  have hW' := hW
  obtain ⟨p, q, hA0, hV, rfl, hfz, hnd⟩ := hW
  have hA : DataW.TrodAll enc Try.prog W 0 (fun _ => true) true Try.f3.params.toList args.toList ds p := hA0
  rw [Try.params3] at hA hval
  obtain ⟨v0, vs0, d0, ds0, p0, q0, hargs, rfl, rfl, h0, r0⟩ := trodAll_cons hA
  obtain ⟨v1, vs1, d1, ds1, p1, q1, rfl, rfl, rfl, h1, r1⟩ := trodAll_cons r0
  obtain ⟨rfl, rfl, rfl⟩ := trodAll_nil r1
  obtain rfl : args = #[v0, v1] := by cases args; simp_all
  obtain ⟨rfl, rfl⟩ := trodVars_none hV
  have k0 := h0
  have lt0 : ∀ x ∈ p0, x.block < W.heap.size := by obtain ⟨m, hm⟩ := k0; exact DataW.trod_lt m _ _ _ hm
  have k1 := h1
  have lt1 : ∀ x ∈ p1, x.block < W.heap.size := by obtain ⟨m, hm⟩ := k1; exact DataW.trod_lt m _ _ _ hm
  obtain ⟨cs0, rfl, lf0_0⟩ := open_flat 12 [22, 22] (by kernel_rfl) (by kernel_rfl) (by kernel_rfl) (hval 0 24 v0 rfl rfl) h0
  obtain ⟨c0_0, r0_0, rfl, y0_0, lf0_1⟩ := leafs_cons lf0_0
  obtain ⟨a0_0, len0_0, cap0_0, z0_0, rfl, w0_0⟩ := leaf_ints Try.underlying22 Try.underlying21 (by kernel_rfl) y0_0
  obtain ⟨c0_1, r0_1, rfl, y0_1, lf0_2⟩ := leafs_cons lf0_1
  obtain ⟨a0_1, len0_1, cap0_1, z0_1, rfl, w0_1⟩ := leaf_ints Try.underlying22 Try.underlying21 (by kernel_rfl) y0_1
  obtain rfl := leafs_nil lf0_2
  obtain ⟨a1, rfl, rfl, rfl, w1⟩ := open_int Try.underlying21 (hval 1 21 v1 rfl rfl) h1
  clear hA0 hval0
  refine (law a0_0 len0_0 cap0_0 z0_0 a0_1 len0_1 cap0_1 z0_1 a1 W w0_0 w0_1 (bounds_i32 w1)).mono fun e W' ⟨he, bel⟩ => ?_
  subst he
  exact ⟨_, rfl, _, _, _, [], _, [], hW', trodAll_mk1 (shut_bool Try.underlying4 _), (trodAll_cons_mk (Below.trod laidOut (by kernel_rfl) (of_decide_eq_true (by kernel_rfl)) k0 bel lt0) (trodAll_cons_mk (Below.trod laidOut (by kernel_rfl) (of_decide_eq_true (by kernel_rfl)) k1 bel lt1) trodAll_mk0)), rfl, bel.frame _, fun h => by cases h⟩
theorem over : Rows.tableTurnsRow.holds Try.pinned (OpenSpec.ofChange Rows.tableTurnsSpec) :=
  OpenClaim.holds_of_wide 3 Try.f3 rfl rfl rfl rfl rfl rfl rfl ⟨rfl, rfl, rfl, rfl, rfl⟩ rfl rfl rfl rfl rfl (by kernel_rfl) Try.func3 (by kernel_rfl)
    (of_decide_eq_true (by kernel_rfl)) (by unfold Func.isWrapper; first | (rw [if_pos (by decide +kernel)]; kernel_rfl) | (rw [if_neg (by decide +kernel)]; exact ⟨rfl, rfl⟩))
    (fun os started H enc _ => lifted os started H enc)
theorem proved : Rows.TableTurnsSaid := over
#print axioms proved

end Go.Proofs.Ytglagndpholejaa.tableTurns
