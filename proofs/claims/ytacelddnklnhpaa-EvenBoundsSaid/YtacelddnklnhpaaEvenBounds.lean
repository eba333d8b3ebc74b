/- EvenBounds: whatever the offsets, the fights, the modes and the bounds are, the law answers true and leaves memory as it was. -/
import Derived.Test.YtacelddnklnhpaaEvenStep
namespace Go.Proofs.Ytacelddnklnhpaa.evenBounds
open Go.ChangeShapes Go.WideShapes Go.ChangeAt Go.RowKit Go.Proofs.Ytacelddnklnhpaa Go.Proofs.Ytacelddnklnhpaa.Open
set_option linter.unusedVariables false
/-- what the law asks of one lane -/
def Lane (m o f most x : Int) : Prop :=
  (-most ≤ x ∧ x ≤ most) ∧ ((m = 1 ∧ ((0 < f ∧ x ≤ o) ∨ (f < 0 ∧ o ≤ x) ∨ f = 0)) ∨ (m ≠ 1 ∧ (o = 0 ∨ (o ≠ 0 ∧ apartI x 0 < apartI o 0))))
theorem lane_ok (m o f bits most : Int) (hb : 0 ≤ bits ∧ bits ≤ 30) (hm : 0 ≤ most) (ho : -most ≤ o ∧ o ≤ most) (hf : -2147483648 ≤ f ∧ f ≤ 2147483647) (hmost : most ≤ 2147483647) : Lane m o f most (evenI m o f bits most) := by
  have hp := two_pow_bd bits hb
  unfold Lane evenI
  by_cases h : m = 1
  · rw [if_pos h]
    generalize (2 : Int) ^ bits.toNat = p at *
    refine ⟨by unfold clampI; omega, .inl ⟨h, ?_⟩⟩
    rcases (by omega : 0 < f ∨ f < 0 ∨ f = 0) with g | g | g
    · have := tdiv_pos_bd f p hp.1 (by omega); exact .inl ⟨g, by unfold clampI sat32; omega⟩
    · have := tdiv_neg_bd f p hp.1 (by omega); exact .inr (.inl ⟨g, by unfold clampI sat32; omega⟩)
    · exact .inr (.inr g)
  · rw [if_neg h, lowI_yes _ _ _ hb]
    generalize (2 : Int) ^ bits.toNat = p at *
    have h1 := towardI_bd o 0 p hp.1
    refine ⟨by omega, .inr ⟨h, ?_⟩⟩
    by_cases h0 : o = 0
    · exact .inl h0
    · refine .inr ⟨h0, ?_⟩
      have h2 : towardI o 0 p ≠ o := by
        unfold towardI
        split
        · rename_i g; intro e; exact g (by omega)
        · split
          · omega
          · split <;> omega
      unfold apartI absI; omega
theorem x_bd (m o f bits most : Int) (hm : 0 ≤ most) (hmost : most ≤ 2147483647) (h : Lane m o f most (evenI m o f bits most)) : -2147483648 ≤ evenI m o f bits most ∧ evenI m o f bits most ≤ 2147483647 := by
  have := h.1; omega
set_option maxHeartbeats 8000000 in
set_option maxRecDepth 100000 in
theorem yes (o0 o1 o2 o3 f0 f1 f2 f3 m0 m1 m2 m3 bits most x0 x1 x2 x3 : Int) (w : World) (ho0 : -2147483648 ≤ o0 ∧ o0 ≤ 2147483647) (ho1 : -2147483648 ≤ o1 ∧ o1 ≤ 2147483647) (ho2 : -2147483648 ≤ o2 ∧ o2 ≤ 2147483647) (ho3 : -2147483648 ≤ o3 ∧ o3 ≤ 2147483647) (hf0 : -2147483648 ≤ f0 ∧ f0 ≤ 2147483647) (hf1 : -2147483648 ≤ f1 ∧ f1 ≤ 2147483647) (hf2 : -2147483648 ≤ f2 ∧ f2 ≤ 2147483647) (hf3 : -2147483648 ≤ f3 ∧ f3 ≤ 2147483647) (hmost : -2147483648 ≤ most ∧ most ≤ 2147483647) (hx0 : -2147483648 ≤ x0 ∧ x0 ≤ 2147483647) (hx1 : -2147483648 ≤ x1 ∧ x1 ≤ 2147483647) (hx2 : -2147483648 ≤ x2 ∧ x2 ≤ 2147483647) (hx3 : -2147483648 ≤ x3 ∧ x3 ≤ 2147483647) (h : evenOk o0 o1 o2 o3 m0 m1 m2 m3 bits most)
    (e0 : evenI m0 o0 f0 bits most = x0) (e1 : evenI m1 o1 f1 bits most = x1) (e2 : evenI m2 o2 f2 bits most = x2) (e3 : evenI m3 o3 f3 bits most = x3)
    (l0 : Lane m0 o0 f0 most x0) (l1 : Lane m1 o1 f1 most x1) (l2 : Lane m2 o2 f2 most x2) (l3 : Lane m3 o3 f3 most x3) :
    Calls Try.prog 9 #[.agg #[.int .i32 o0, .int .i32 o1, .int .i32 o2, .int .i32 o3], .agg #[.int .i32 f0, .int .i32 f1, .int .i32 f2, .int .i32 f3], .agg #[.int .i64 m0, .int .i64 m1, .int .i64 m2, .int .i64 m3], .int .i64 bits, .int .i32 most] w fun e w' => e = .returned (.bool true) ∧ Below w.heap.size w w' := by
  have h2 : evenOk x0 x1 x2 x3 m0 m1 m2 m3 bits most := by
    have a0 := l0.1; have a1 := l1.1; have a2 := l2.1; have a3 := l3.1
    unfold evenOk at h ⊢; omega
  have hm : 0 ≤ most := h.2.2.1
  have H := Lib.hid h; have H2 := Lib.hid h2; have E0 := Lib.hid e0; have E1 := Lib.hid e1; have E2 := Lib.hid e2; have E3 := Lib.hid e3
  have L0 := Lib.hid l0; have L1 := Lib.hid l1; have L2 := Lib.hid l2; have L3 := Lib.hid l3
  have K0 : Hid (evenOk 0 0 0 0 1 1 0 0 1 3) := (by unfold evenOk; omega : evenOk 0 0 0 0 1 1 0 0 1 3)
  have K1 : Hid (evenI 1 0 8 1 3 = -3) := (by decide +kernel : evenI 1 0 8 1 3 = -3)
  have K2 : Hid (evenI 1 0 (-8) 1 3 = 3) := (by decide +kernel : evenI 1 0 (-8) 1 3 = 3)
  have K3 : Hid (evenI 0 0 0 1 3 = 0) := (by decide +kernel : evenI 0 0 0 1 3 = 0)
  clear h h2 e0 e1 e2 e3 l0 l1 l2 l3
  have q1 : ∀ w : World, (Op.equalIn 10000 22 (.agg #[.int .i32 (-3), .int .i32 3, .int .i32 0, .int .i32 0]) (.agg #[.int .i32 (-3), .int .i32 3, .int .i32 0, .int .i32 0])).run Try.prog w = .ok true w := fun _ => by kernel_rfl
  go_enter Try.func9, Try.ntmps9
  go_wp2_with fail
  refine (evenStep_yes _ _ _ _ _ _ _ _ _ _ _ _ _ _ (-3) 3 0 0 _ (by omega) (by omega) (by omega) (by omega) (by omega) (by omega) (by omega) (by omega) (by omega) K0.out K1.out K2.out K3.out K3.out).mono ?_
  rintro e_1 w1 ⟨rfl, hb⟩
  have zb := hb.size
  try (simp at zb)
  have co0 : w1.cell? ⟨w.heap.size, 0, none⟩ = some (.int .i32 o0) := cell_later hb (by go_simp)
  have co1 : w1.cell? ⟨w.heap.size, 1, none⟩ = some (.int .i32 o1) := cell_later hb (by go_simp)
  have co2 : w1.cell? ⟨w.heap.size, 2, none⟩ = some (.int .i32 o2) := cell_later hb (by go_simp)
  have co3 : w1.cell? ⟨w.heap.size, 3, none⟩ = some (.int .i32 o3) := cell_later hb (by go_simp)
  have cf0 : w1.cell? ⟨w.heap.size + 1, 0, none⟩ = some (.int .i32 f0) := cell_later hb (by go_simp)
  have cf1 : w1.cell? ⟨w.heap.size + 1, 1, none⟩ = some (.int .i32 f1) := cell_later hb (by go_simp)
  have cf2 : w1.cell? ⟨w.heap.size + 1, 2, none⟩ = some (.int .i32 f2) := cell_later hb (by go_simp)
  have cf3 : w1.cell? ⟨w.heap.size + 1, 3, none⟩ = some (.int .i32 f3) := cell_later hb (by go_simp)
  have cm0 : w1.cell? ⟨w.heap.size + 1 + 1, 0, none⟩ = some (.int .i64 m0) := cell_later hb (by go_simp)
  have cm1 : w1.cell? ⟨w.heap.size + 1 + 1, 1, none⟩ = some (.int .i64 m1) := cell_later hb (by go_simp)
  have cm2 : w1.cell? ⟨w.heap.size + 1 + 1, 2, none⟩ = some (.int .i64 m2) := cell_later hb (by go_simp)
  have cm3 : w1.cell? ⟨w.heap.size + 1 + 1, 3, none⟩ = some (.int .i64 m3) := cell_later hb (by go_simp)
  have B1 : Below w.heap.size w w1 := by repeat (first | exact Below.refl _ _ | refine Below.setCell ?_ (by first | (simp; done) | omega | (simp; omega)) _ | refine below_drewN ?_ _ | refine Below.drew ?_ | refine Below.trans ?_ (Below.mono hb (by first | (simp; done) | omega | (simp; omega))) | refine Below.alloc ?_ (by first | (simp; done) | omega | (simp; omega)) _)
  clear hb
  have sw1_0_0 : w.heap.size < w1.heap.size := by omega
  have sw1_1_0 : w.heap.size + 1 < w1.heap.size := by omega
  have sw1_2_0 : w.heap.size + 1 + 1 < w1.heap.size := by omega
  go_wp2_with fail
  refine (evenStep_yes _ _ _ _ _ _ _ _ _ _ _ _ _ _ x0 x1 x2 x3 _ ho0 ho1 ho2 ho3 hf0 hf1 hf2 hf3 hmost H.out E0.out E1.out E2.out E3.out).mono ?_
  rintro e_2 w2 ⟨rfl, hb⟩
  have zb2 := hb.size
  try (simp at zb2)
  have BA : Below w1.heap.size w1 w2 := by repeat (first | exact Below.refl _ _ | refine Below.setCell ?_ (by first | (simp; done) | omega | (simp; omega)) _ | refine below_drewN ?_ _ | refine Below.drew ?_ | refine Below.trans ?_ (Below.mono hb (by first | (simp; done) | omega | (simp; omega))) | refine Below.alloc ?_ (by first | (simp; done) | omega | (simp; omega)) _)
  have B2 : Below w.heap.size w w2 := by repeat (first | exact Below.refl _ _ | exact B1 | refine Below.setCell ?_ (by first | (simp; done) | omega | (simp; omega)) _ | refine below_drewN ?_ _ | refine Below.drew ?_ | refine Below.trans ?_ (Below.mono BA (by first | (simp; done) | omega | (simp; omega))) | refine Below.alloc ?_ (by first | (simp; done) | omega | (simp; omega)) _)
  replace co0 := cell_later BA co0
  replace co1 := cell_later BA co1
  replace co2 := cell_later BA co2
  replace co3 := cell_later BA co3
  replace cf0 := cell_later BA cf0
  replace cf1 := cell_later BA cf1
  replace cf2 := cell_later BA cf2
  replace cf3 := cell_later BA cf3
  replace cm0 := cell_later BA cm0
  replace cm1 := cell_later BA cm1
  replace cm2 := cell_later BA cm2
  replace cm3 := cell_later BA cm3
  have sw2_0_0 : w.heap.size < w2.heap.size := by omega
  have sw2_1_0 : w.heap.size + 1 < w2.heap.size := by omega
  have sw2_2_0 : w.heap.size + 1 + 1 < w2.heap.size := by omega
  clear hb BA B1
  go_wp2
  go_loopw [44] (fun i wr => ∃ k : Nat, k ≤ 4 ∧ i = .int .i64 k ∧ Below w.heap.size w wr ∧ wr.heap.size = w2.heap.size + 1 ∧
      wr.cell? ⟨w.heap.size, 0, none⟩ = some (.int .i32 o0) ∧ wr.cell? ⟨w.heap.size, 1, none⟩ = some (.int .i32 o1) ∧ wr.cell? ⟨w.heap.size, 2, none⟩ = some (.int .i32 o2) ∧ wr.cell? ⟨w.heap.size, 3, none⟩ = some (.int .i32 o3) ∧
      wr.cell? ⟨w.heap.size + 1, 0, none⟩ = some (.int .i32 f0) ∧ wr.cell? ⟨w.heap.size + 1, 1, none⟩ = some (.int .i32 f1) ∧ wr.cell? ⟨w.heap.size + 1, 2, none⟩ = some (.int .i32 f2) ∧ wr.cell? ⟨w.heap.size + 1, 3, none⟩ = some (.int .i32 f3) ∧
      wr.cell? ⟨w.heap.size + 1 + 1, 0, none⟩ = some (.int .i64 m0) ∧ wr.cell? ⟨w.heap.size + 1 + 1, 1, none⟩ = some (.int .i64 m1) ∧ wr.cell? ⟨w.heap.size + 1 + 1, 2, none⟩ = some (.int .i64 m2) ∧ wr.cell? ⟨w.heap.size + 1 + 1, 3, none⟩ = some (.int .i64 m3) ∧
      wr.cell? ⟨w2.heap.size, 0, none⟩ = some (.int .i32 x0) ∧ wr.cell? ⟨w2.heap.size, 1, none⟩ = some (.int .i32 x1) ∧ wr.cell? ⟨w2.heap.size, 2, none⟩ = some (.int .i32 x2) ∧ wr.cell? ⟨w2.heap.size, 3, none⟩ = some (.int .i32 x3)) (fun i _ => 4 - (intOf i).toNat)
  case atStart =>
    refine ⟨0, by omega, rfl, ?_, by simp, ?_, ?_, ?_, ?_, ?_, ?_, ?_, ?_, ?_, ?_, ?_, ?_, ?_, ?_, ?_, ?_⟩
    · repeat (first | exact Below.refl _ _ | exact B2 | refine Below.setCell ?_ (by first | (simp; done) | omega | (simp; omega)) _ | refine below_drewN ?_ _ | refine Below.drew ?_ | refine Below.alloc ?_ (by first | (simp; done) | omega | (simp; omega)) _)
    iterate 16 (go_simp)
  case round =>
    clear co0 co1 co2 co3 cf0 cf1 cf2 cf3 cm0 cm1 cm2 cm3
    obtain ⟨k, hk, rfl, hB, hsz, co0, co1, co2, co3, cf0, cf1, cf2, cf3, cm0, cm1, cm2, cm3, cx0, cx1, cx2, cx3⟩ := hrel
    have hs2 : w2.heap.size < wr.heap.size := by omega
    have HSZ := Lib.hid hsz
    clear hsz
    have swr_0_0 : w.heap.size < wr.heap.size := by omega
    have swr_1_0 : w.heap.size + 1 < wr.heap.size := by omega
    have swr_2_0 : w.heap.size + 1 + 1 < wr.heap.size := by omega
    rcases (by omega : k = 0 ∨ k = 1 ∨ k = 2 ∨ k = 3 ∨ k = 4) with rfl | rfl | rfl | rfl | rfl
    · obtain ⟨hx, hl⟩ := L0.out
      have a1 := apartI_bd x0 0 hx0 (by omega); have a2 := apartI_bd o0 0 ho0 (by omega)
      have d1 : decide (x0 < -most) = false := decide_eq_false (by omega)
      have d2 : decide (most < x0) = false := decide_eq_false (by omega)
      rcases hl with ⟨g, hl⟩ | ⟨g, hl⟩
      · have t1 : (m0 == 1) = true := by simpa using g
        have t2 : (m0 != 1) = false := by simpa using g
        clear g
        rcases hl with ⟨g1, g2⟩ | ⟨g1, g2⟩ | g1
        · have t3 : decide (0 < f0) = true := decide_eq_true g1
          have t4 : decide (o0 < x0) = false := decide_eq_false (by omega)
          have t5 : decide (f0 < 0) = false := decide_eq_false (by omega)
          go_wp2
          go_quiet (fail)
          go_wp2
          go_quiet (fail)
          go_wp2
          go_roundw
          case rel => exact ⟨1, by omega, rfl, by repeat (first | exact Below.refl _ _ | exact hB | refine Below.setCell ?_ (by first | (simp; done) | omega | (simp; omega)) _ | refine below_drewN ?_ _ | refine Below.drew ?_ | refine Below.alloc ?_ (by first | (simp; done) | omega | (simp; omega)) _), HSZ.out, by go_simp, by go_simp, by go_simp, by go_simp, by go_simp, by go_simp, by go_simp, by go_simp, by go_simp, by go_simp, by go_simp, by go_simp, by go_simp, by go_simp, by go_simp, by go_simp⟩
          case measure => simp [intOf]
        · have t3 : decide (0 < f0) = false := decide_eq_false (by omega)
          have t4 : decide (x0 < o0) = false := decide_eq_false (by omega)
          have t5 : decide (f0 < 0) = true := decide_eq_true (by omega)
          go_wp2
          go_quiet (fail)
          go_wp2
          go_quiet (fail)
          go_wp2
          go_roundw
          case rel => exact ⟨1, by omega, rfl, by repeat (first | exact Below.refl _ _ | exact hB | refine Below.setCell ?_ (by first | (simp; done) | omega | (simp; omega)) _ | refine below_drewN ?_ _ | refine Below.drew ?_ | refine Below.alloc ?_ (by first | (simp; done) | omega | (simp; omega)) _), HSZ.out, by go_simp, by go_simp, by go_simp, by go_simp, by go_simp, by go_simp, by go_simp, by go_simp, by go_simp, by go_simp, by go_simp, by go_simp, by go_simp, by go_simp, by go_simp, by go_simp⟩
          case measure => simp [intOf]
        · have t3 : decide (0 < f0) = false := decide_eq_false (by omega)
          have t5 : decide (f0 < 0) = false := decide_eq_false (by omega)
          clear g1
          go_wp2
          go_quiet (fail)
          go_wp2
          go_quiet (fail)
          go_wp2
          go_roundw
          case rel => exact ⟨1, by omega, rfl, by repeat (first | exact Below.refl _ _ | exact hB | refine Below.setCell ?_ (by first | (simp; done) | omega | (simp; omega)) _ | refine below_drewN ?_ _ | refine Below.drew ?_ | refine Below.alloc ?_ (by first | (simp; done) | omega | (simp; omega)) _), HSZ.out, by go_simp, by go_simp, by go_simp, by go_simp, by go_simp, by go_simp, by go_simp, by go_simp, by go_simp, by go_simp, by go_simp, by go_simp, by go_simp, by go_simp, by go_simp, by go_simp⟩
          case measure => simp [intOf]
      · have t1 : (m0 == 1) = false := by simpa using g
        have t2 : (m0 != 1) = true := by simpa using g
        clear g
        rcases hl with g1 | ⟨g1, g2⟩
        · have t3 : (o0 != 0) = false := by simpa using g1
          clear g1
          go_wp2
          go_quiet (fail)
          go_wp2
          go_quiet (fail)
          go_wp2
          go_roundw
          case rel => exact ⟨1, by omega, rfl, by repeat (first | exact Below.refl _ _ | exact hB | refine Below.setCell ?_ (by first | (simp; done) | omega | (simp; omega)) _ | refine below_drewN ?_ _ | refine Below.drew ?_ | refine Below.alloc ?_ (by first | (simp; done) | omega | (simp; omega)) _), HSZ.out, by go_simp, by go_simp, by go_simp, by go_simp, by go_simp, by go_simp, by go_simp, by go_simp, by go_simp, by go_simp, by go_simp, by go_simp, by go_simp, by go_simp, by go_simp, by go_simp⟩
          case measure => simp [intOf]
        · have t3 : (o0 != 0) = true := by simpa using g1
          have t4 : decide (apartI o0 0 ≤ apartI x0 0) = false := decide_eq_false (by omega)
          go_wp2
          go_quiet ((go_at_call 24; exact quietL (apart_any _ _ (by omega) (by omega) _)))
          go_wp2
          go_quiet (fail)
          go_wp2
          go_roundw
          case rel => exact ⟨1, by omega, rfl, by repeat (first | exact Below.refl _ _ | exact hB | refine Below.setCell ?_ (by first | (simp; done) | omega | (simp; omega)) _ | refine below_drewN ?_ _ | refine Below.drew ?_ | refine Below.alloc ?_ (by first | (simp; done) | omega | (simp; omega)) _), HSZ.out, by go_simp, by go_simp, by go_simp, by go_simp, by go_simp, by go_simp, by go_simp, by go_simp, by go_simp, by go_simp, by go_simp, by go_simp, by go_simp, by go_simp, by go_simp, by go_simp⟩
          case measure => simp [intOf]
    · obtain ⟨hx, hl⟩ := L1.out
      have a1 := apartI_bd x1 0 hx1 (by omega); have a2 := apartI_bd o1 0 ho1 (by omega)
      have d1 : decide (x1 < -most) = false := decide_eq_false (by omega)
      have d2 : decide (most < x1) = false := decide_eq_false (by omega)
      rcases hl with ⟨g, hl⟩ | ⟨g, hl⟩
      · have t1 : (m1 == 1) = true := by simpa using g
        have t2 : (m1 != 1) = false := by simpa using g
        clear g
        rcases hl with ⟨g1, g2⟩ | ⟨g1, g2⟩ | g1
        · have t3 : decide (0 < f1) = true := decide_eq_true g1
          have t4 : decide (o1 < x1) = false := decide_eq_false (by omega)
          have t5 : decide (f1 < 0) = false := decide_eq_false (by omega)
          go_wp2
          go_quiet (fail)
          go_wp2
          go_quiet (fail)
          go_wp2
          go_roundw
          case rel => exact ⟨2, by omega, rfl, by repeat (first | exact Below.refl _ _ | exact hB | refine Below.setCell ?_ (by first | (simp; done) | omega | (simp; omega)) _ | refine below_drewN ?_ _ | refine Below.drew ?_ | refine Below.alloc ?_ (by first | (simp; done) | omega | (simp; omega)) _), HSZ.out, by go_simp, by go_simp, by go_simp, by go_simp, by go_simp, by go_simp, by go_simp, by go_simp, by go_simp, by go_simp, by go_simp, by go_simp, by go_simp, by go_simp, by go_simp, by go_simp⟩
          case measure => simp [intOf]
        · have t3 : decide (0 < f1) = false := decide_eq_false (by omega)
          have t4 : decide (x1 < o1) = false := decide_eq_false (by omega)
          have t5 : decide (f1 < 0) = true := decide_eq_true (by omega)
          go_wp2
          go_quiet (fail)
          go_wp2
          go_quiet (fail)
          go_wp2
          go_roundw
          case rel => exact ⟨2, by omega, rfl, by repeat (first | exact Below.refl _ _ | exact hB | refine Below.setCell ?_ (by first | (simp; done) | omega | (simp; omega)) _ | refine below_drewN ?_ _ | refine Below.drew ?_ | refine Below.alloc ?_ (by first | (simp; done) | omega | (simp; omega)) _), HSZ.out, by go_simp, by go_simp, by go_simp, by go_simp, by go_simp, by go_simp, by go_simp, by go_simp, by go_simp, by go_simp, by go_simp, by go_simp, by go_simp, by go_simp, by go_simp, by go_simp⟩
          case measure => simp [intOf]
        · have t3 : decide (0 < f1) = false := decide_eq_false (by omega)
          have t5 : decide (f1 < 0) = false := decide_eq_false (by omega)
          clear g1
          go_wp2
          go_quiet (fail)
          go_wp2
          go_quiet (fail)
          go_wp2
          go_roundw
          case rel => exact ⟨2, by omega, rfl, by repeat (first | exact Below.refl _ _ | exact hB | refine Below.setCell ?_ (by first | (simp; done) | omega | (simp; omega)) _ | refine below_drewN ?_ _ | refine Below.drew ?_ | refine Below.alloc ?_ (by first | (simp; done) | omega | (simp; omega)) _), HSZ.out, by go_simp, by go_simp, by go_simp, by go_simp, by go_simp, by go_simp, by go_simp, by go_simp, by go_simp, by go_simp, by go_simp, by go_simp, by go_simp, by go_simp, by go_simp, by go_simp⟩
          case measure => simp [intOf]
      · have t1 : (m1 == 1) = false := by simpa using g
        have t2 : (m1 != 1) = true := by simpa using g
        clear g
        rcases hl with g1 | ⟨g1, g2⟩
        · have t3 : (o1 != 0) = false := by simpa using g1
          clear g1
          go_wp2
          go_quiet (fail)
          go_wp2
          go_quiet (fail)
          go_wp2
          go_roundw
          case rel => exact ⟨2, by omega, rfl, by repeat (first | exact Below.refl _ _ | exact hB | refine Below.setCell ?_ (by first | (simp; done) | omega | (simp; omega)) _ | refine below_drewN ?_ _ | refine Below.drew ?_ | refine Below.alloc ?_ (by first | (simp; done) | omega | (simp; omega)) _), HSZ.out, by go_simp, by go_simp, by go_simp, by go_simp, by go_simp, by go_simp, by go_simp, by go_simp, by go_simp, by go_simp, by go_simp, by go_simp, by go_simp, by go_simp, by go_simp, by go_simp⟩
          case measure => simp [intOf]
        · have t3 : (o1 != 0) = true := by simpa using g1
          have t4 : decide (apartI o1 0 ≤ apartI x1 0) = false := decide_eq_false (by omega)
          go_wp2
          go_quiet ((go_at_call 24; exact quietL (apart_any _ _ (by omega) (by omega) _)))
          go_wp2
          go_quiet (fail)
          go_wp2
          go_roundw
          case rel => exact ⟨2, by omega, rfl, by repeat (first | exact Below.refl _ _ | exact hB | refine Below.setCell ?_ (by first | (simp; done) | omega | (simp; omega)) _ | refine below_drewN ?_ _ | refine Below.drew ?_ | refine Below.alloc ?_ (by first | (simp; done) | omega | (simp; omega)) _), HSZ.out, by go_simp, by go_simp, by go_simp, by go_simp, by go_simp, by go_simp, by go_simp, by go_simp, by go_simp, by go_simp, by go_simp, by go_simp, by go_simp, by go_simp, by go_simp, by go_simp⟩
          case measure => simp [intOf]
    · obtain ⟨hx, hl⟩ := L2.out
      have a1 := apartI_bd x2 0 hx2 (by omega); have a2 := apartI_bd o2 0 ho2 (by omega)
      have d1 : decide (x2 < -most) = false := decide_eq_false (by omega)
      have d2 : decide (most < x2) = false := decide_eq_false (by omega)
      rcases hl with ⟨g, hl⟩ | ⟨g, hl⟩
      · have t1 : (m2 == 1) = true := by simpa using g
        have t2 : (m2 != 1) = false := by simpa using g
        clear g
        rcases hl with ⟨g1, g2⟩ | ⟨g1, g2⟩ | g1
        · have t3 : decide (0 < f2) = true := decide_eq_true g1
          have t4 : decide (o2 < x2) = false := decide_eq_false (by omega)
          have t5 : decide (f2 < 0) = false := decide_eq_false (by omega)
          go_wp2
          go_quiet (fail)
          go_wp2
          go_quiet (fail)
          go_wp2
          go_roundw
          case rel => exact ⟨3, by omega, rfl, by repeat (first | exact Below.refl _ _ | exact hB | refine Below.setCell ?_ (by first | (simp; done) | omega | (simp; omega)) _ | refine below_drewN ?_ _ | refine Below.drew ?_ | refine Below.alloc ?_ (by first | (simp; done) | omega | (simp; omega)) _), HSZ.out, by go_simp, by go_simp, by go_simp, by go_simp, by go_simp, by go_simp, by go_simp, by go_simp, by go_simp, by go_simp, by go_simp, by go_simp, by go_simp, by go_simp, by go_simp, by go_simp⟩
          case measure => simp [intOf]
        · have t3 : decide (0 < f2) = false := decide_eq_false (by omega)
          have t4 : decide (x2 < o2) = false := decide_eq_false (by omega)
          have t5 : decide (f2 < 0) = true := decide_eq_true (by omega)
          go_wp2
          go_quiet (fail)
          go_wp2
          go_quiet (fail)
          go_wp2
          go_roundw
          case rel => exact ⟨3, by omega, rfl, by repeat (first | exact Below.refl _ _ | exact hB | refine Below.setCell ?_ (by first | (simp; done) | omega | (simp; omega)) _ | refine below_drewN ?_ _ | refine Below.drew ?_ | refine Below.alloc ?_ (by first | (simp; done) | omega | (simp; omega)) _), HSZ.out, by go_simp, by go_simp, by go_simp, by go_simp, by go_simp, by go_simp, by go_simp, by go_simp, by go_simp, by go_simp, by go_simp, by go_simp, by go_simp, by go_simp, by go_simp, by go_simp⟩
          case measure => simp [intOf]
        · have t3 : decide (0 < f2) = false := decide_eq_false (by omega)
          have t5 : decide (f2 < 0) = false := decide_eq_false (by omega)
          clear g1
          go_wp2
          go_quiet (fail)
          go_wp2
          go_quiet (fail)
          go_wp2
          go_roundw
          case rel => exact ⟨3, by omega, rfl, by repeat (first | exact Below.refl _ _ | exact hB | refine Below.setCell ?_ (by first | (simp; done) | omega | (simp; omega)) _ | refine below_drewN ?_ _ | refine Below.drew ?_ | refine Below.alloc ?_ (by first | (simp; done) | omega | (simp; omega)) _), HSZ.out, by go_simp, by go_simp, by go_simp, by go_simp, by go_simp, by go_simp, by go_simp, by go_simp, by go_simp, by go_simp, by go_simp, by go_simp, by go_simp, by go_simp, by go_simp, by go_simp⟩
          case measure => simp [intOf]
      · have t1 : (m2 == 1) = false := by simpa using g
        have t2 : (m2 != 1) = true := by simpa using g
        clear g
        rcases hl with g1 | ⟨g1, g2⟩
        · have t3 : (o2 != 0) = false := by simpa using g1
          clear g1
          go_wp2
          go_quiet (fail)
          go_wp2
          go_quiet (fail)
          go_wp2
          go_roundw
          case rel => exact ⟨3, by omega, rfl, by repeat (first | exact Below.refl _ _ | exact hB | refine Below.setCell ?_ (by first | (simp; done) | omega | (simp; omega)) _ | refine below_drewN ?_ _ | refine Below.drew ?_ | refine Below.alloc ?_ (by first | (simp; done) | omega | (simp; omega)) _), HSZ.out, by go_simp, by go_simp, by go_simp, by go_simp, by go_simp, by go_simp, by go_simp, by go_simp, by go_simp, by go_simp, by go_simp, by go_simp, by go_simp, by go_simp, by go_simp, by go_simp⟩
          case measure => simp [intOf]
        · have t3 : (o2 != 0) = true := by simpa using g1
          have t4 : decide (apartI o2 0 ≤ apartI x2 0) = false := decide_eq_false (by omega)
          go_wp2
          go_quiet ((go_at_call 24; exact quietL (apart_any _ _ (by omega) (by omega) _)))
          go_wp2
          go_quiet (fail)
          go_wp2
          go_roundw
          case rel => exact ⟨3, by omega, rfl, by repeat (first | exact Below.refl _ _ | exact hB | refine Below.setCell ?_ (by first | (simp; done) | omega | (simp; omega)) _ | refine below_drewN ?_ _ | refine Below.drew ?_ | refine Below.alloc ?_ (by first | (simp; done) | omega | (simp; omega)) _), HSZ.out, by go_simp, by go_simp, by go_simp, by go_simp, by go_simp, by go_simp, by go_simp, by go_simp, by go_simp, by go_simp, by go_simp, by go_simp, by go_simp, by go_simp, by go_simp, by go_simp⟩
          case measure => simp [intOf]
    · obtain ⟨hx, hl⟩ := L3.out
      have a1 := apartI_bd x3 0 hx3 (by omega); have a2 := apartI_bd o3 0 ho3 (by omega)
      have d1 : decide (x3 < -most) = false := decide_eq_false (by omega)
      have d2 : decide (most < x3) = false := decide_eq_false (by omega)
      rcases hl with ⟨g, hl⟩ | ⟨g, hl⟩
      · have t1 : (m3 == 1) = true := by simpa using g
        have t2 : (m3 != 1) = false := by simpa using g
        clear g
        rcases hl with ⟨g1, g2⟩ | ⟨g1, g2⟩ | g1
        · have t3 : decide (0 < f3) = true := decide_eq_true g1
          have t4 : decide (o3 < x3) = false := decide_eq_false (by omega)
          have t5 : decide (f3 < 0) = false := decide_eq_false (by omega)
          go_wp2
          go_quiet (fail)
          go_wp2
          go_quiet (fail)
          go_wp2
          go_roundw
          case rel => exact ⟨4, by omega, rfl, by repeat (first | exact Below.refl _ _ | exact hB | refine Below.setCell ?_ (by first | (simp; done) | omega | (simp; omega)) _ | refine below_drewN ?_ _ | refine Below.drew ?_ | refine Below.alloc ?_ (by first | (simp; done) | omega | (simp; omega)) _), HSZ.out, by go_simp, by go_simp, by go_simp, by go_simp, by go_simp, by go_simp, by go_simp, by go_simp, by go_simp, by go_simp, by go_simp, by go_simp, by go_simp, by go_simp, by go_simp, by go_simp⟩
          case measure => simp [intOf]
        · have t3 : decide (0 < f3) = false := decide_eq_false (by omega)
          have t4 : decide (x3 < o3) = false := decide_eq_false (by omega)
          have t5 : decide (f3 < 0) = true := decide_eq_true (by omega)
          go_wp2
          go_quiet (fail)
          go_wp2
          go_quiet (fail)
          go_wp2
          go_roundw
          case rel => exact ⟨4, by omega, rfl, by repeat (first | exact Below.refl _ _ | exact hB | refine Below.setCell ?_ (by first | (simp; done) | omega | (simp; omega)) _ | refine below_drewN ?_ _ | refine Below.drew ?_ | refine Below.alloc ?_ (by first | (simp; done) | omega | (simp; omega)) _), HSZ.out, by go_simp, by go_simp, by go_simp, by go_simp, by go_simp, by go_simp, by go_simp, by go_simp, by go_simp, by go_simp, by go_simp, by go_simp, by go_simp, by go_simp, by go_simp, by go_simp⟩
          case measure => simp [intOf]
        · have t3 : decide (0 < f3) = false := decide_eq_false (by omega)
          have t5 : decide (f3 < 0) = false := decide_eq_false (by omega)
          clear g1
          go_wp2
          go_quiet (fail)
          go_wp2
          go_quiet (fail)
          go_wp2
          go_roundw
          case rel => exact ⟨4, by omega, rfl, by repeat (first | exact Below.refl _ _ | exact hB | refine Below.setCell ?_ (by first | (simp; done) | omega | (simp; omega)) _ | refine below_drewN ?_ _ | refine Below.drew ?_ | refine Below.alloc ?_ (by first | (simp; done) | omega | (simp; omega)) _), HSZ.out, by go_simp, by go_simp, by go_simp, by go_simp, by go_simp, by go_simp, by go_simp, by go_simp, by go_simp, by go_simp, by go_simp, by go_simp, by go_simp, by go_simp, by go_simp, by go_simp⟩
          case measure => simp [intOf]
      · have t1 : (m3 == 1) = false := by simpa using g
        have t2 : (m3 != 1) = true := by simpa using g
        clear g
        rcases hl with g1 | ⟨g1, g2⟩
        · have t3 : (o3 != 0) = false := by simpa using g1
          clear g1
          go_wp2
          go_quiet (fail)
          go_wp2
          go_quiet (fail)
          go_wp2
          go_roundw
          case rel => exact ⟨4, by omega, rfl, by repeat (first | exact Below.refl _ _ | exact hB | refine Below.setCell ?_ (by first | (simp; done) | omega | (simp; omega)) _ | refine below_drewN ?_ _ | refine Below.drew ?_ | refine Below.alloc ?_ (by first | (simp; done) | omega | (simp; omega)) _), HSZ.out, by go_simp, by go_simp, by go_simp, by go_simp, by go_simp, by go_simp, by go_simp, by go_simp, by go_simp, by go_simp, by go_simp, by go_simp, by go_simp, by go_simp, by go_simp, by go_simp⟩
          case measure => simp [intOf]
        · have t3 : (o3 != 0) = true := by simpa using g1
          have t4 : decide (apartI o3 0 ≤ apartI x3 0) = false := decide_eq_false (by omega)
          go_wp2
          go_quiet ((go_at_call 24; exact quietL (apart_any _ _ (by omega) (by omega) _)))
          go_wp2
          go_quiet (fail)
          go_wp2
          go_roundw
          case rel => exact ⟨4, by omega, rfl, by repeat (first | exact Below.refl _ _ | exact hB | refine Below.setCell ?_ (by first | (simp; done) | omega | (simp; omega)) _ | refine below_drewN ?_ _ | refine Below.drew ?_ | refine Below.alloc ?_ (by first | (simp; done) | omega | (simp; omega)) _), HSZ.out, by go_simp, by go_simp, by go_simp, by go_simp, by go_simp, by go_simp, by go_simp, by go_simp, by go_simp, by go_simp, by go_simp, by go_simp, by go_simp, by go_simp, by go_simp, by go_simp⟩
          case measure => simp [intOf]
    · go_wp2_with fail
      refine (evenCheck_yes _ _ _ _ _ _ _ _ _ _ _ hx0 hx1 hx2 hx3 hmost H2.out).mono ?_
      rintro e_3 w3 ⟨rfl, hb3⟩
      have B3 : Below w.heap.size w w3 := by repeat (first | exact Below.refl _ _ | exact hB | refine Below.setCell ?_ (by first | (simp; done) | omega | (simp; omega)) _ | refine below_drewN ?_ _ | refine Below.drew ?_ | refine Below.trans ?_ (Below.mono hb3 (by first | (simp; done) | omega | (simp; omega))) | refine Below.alloc ?_ (by first | (simp; done) | omega | (simp; omega)) _)
      clear hb3 hB co0 co1 co2 co3 cf0 cf1 cf2 cf3 cm0 cm1 cm2 cm3 cx0 cx1 cx2 cx3
      go_wp2
      go_ret
      exact ⟨ret_bool (by first | rfl | (simp; done)), B3⟩
set_option maxHeartbeats 4000000 in
set_option maxRecDepth 100000 in
theorem no (o0 o1 o2 o3 f0 f1 f2 f3 m0 m1 m2 m3 bits most : Int) (w : World) (ho0 : -2147483648 ≤ o0 ∧ o0 ≤ 2147483647) (ho1 : -2147483648 ≤ o1 ∧ o1 ≤ 2147483647) (ho2 : -2147483648 ≤ o2 ∧ o2 ≤ 2147483647) (ho3 : -2147483648 ≤ o3 ∧ o3 ≤ 2147483647) (hf0 : -2147483648 ≤ f0 ∧ f0 ≤ 2147483647) (hf1 : -2147483648 ≤ f1 ∧ f1 ≤ 2147483647) (hf2 : -2147483648 ≤ f2 ∧ f2 ≤ 2147483647) (hf3 : -2147483648 ≤ f3 ∧ f3 ≤ 2147483647) (hmost : -2147483648 ≤ most ∧ most ≤ 2147483647) (h : ¬ evenOk o0 o1 o2 o3 m0 m1 m2 m3 bits most) :
    Calls Try.prog 9 #[.agg #[.int .i32 o0, .int .i32 o1, .int .i32 o2, .int .i32 o3], .agg #[.int .i32 f0, .int .i32 f1, .int .i32 f2, .int .i32 f3], .agg #[.int .i64 m0, .int .i64 m1, .int .i64 m2, .int .i64 m3], .int .i64 bits, .int .i32 most] w fun e w' => e = .returned (.bool true) ∧ Below w.heap.size w w' := by
  have H := Lib.hid h
  have K0 : Hid (evenOk 0 0 0 0 1 1 0 0 1 3) := (by unfold evenOk; omega : evenOk 0 0 0 0 1 1 0 0 1 3)
  have K1 : Hid (evenI 1 0 8 1 3 = -3) := (by decide +kernel : evenI 1 0 8 1 3 = -3)
  have K2 : Hid (evenI 1 0 (-8) 1 3 = 3) := (by decide +kernel : evenI 1 0 (-8) 1 3 = 3)
  have K3 : Hid (evenI 0 0 0 1 3 = 0) := (by decide +kernel : evenI 0 0 0 1 3 = 0)
  clear h
  have q1 : ∀ w : World, (Op.equalIn 10000 22 (.agg #[.int .i32 (-3), .int .i32 3, .int .i32 0, .int .i32 0]) (.agg #[.int .i32 (-3), .int .i32 3, .int .i32 0, .int .i32 0])).run Try.prog w = .ok true w := fun _ => by kernel_rfl
  have q2 : ∀ w : World, (Op.equalIn 10000 22 (.agg #[.int .i32 0, .int .i32 0, .int .i32 0, .int .i32 0]) (.agg #[.int .i32 0, .int .i32 0, .int .i32 0, .int .i32 0])).run Try.prog w = .ok true w := fun _ => by kernel_rfl
  go_enter Try.func9, Try.ntmps9
  go_wp2_with fail
  refine (evenStep_yes _ _ _ _ _ _ _ _ _ _ _ _ _ _ (-3) 3 0 0 _ (by omega) (by omega) (by omega) (by omega) (by omega) (by omega) (by omega) (by omega) (by omega) K0.out K1.out K2.out K3.out K3.out).mono ?_
  rintro e_1 w1 ⟨rfl, hb⟩
  have zb := hb.size
  try (simp at zb)
  have co0 : w1.cell? ⟨w.heap.size, 0, none⟩ = some (.int .i32 o0) := cell_later hb (by go_simp)
  have co1 : w1.cell? ⟨w.heap.size, 1, none⟩ = some (.int .i32 o1) := cell_later hb (by go_simp)
  have co2 : w1.cell? ⟨w.heap.size, 2, none⟩ = some (.int .i32 o2) := cell_later hb (by go_simp)
  have co3 : w1.cell? ⟨w.heap.size, 3, none⟩ = some (.int .i32 o3) := cell_later hb (by go_simp)
  have cf0 : w1.cell? ⟨w.heap.size + 1, 0, none⟩ = some (.int .i32 f0) := cell_later hb (by go_simp)
  have cf1 : w1.cell? ⟨w.heap.size + 1, 1, none⟩ = some (.int .i32 f1) := cell_later hb (by go_simp)
  have cf2 : w1.cell? ⟨w.heap.size + 1, 2, none⟩ = some (.int .i32 f2) := cell_later hb (by go_simp)
  have cf3 : w1.cell? ⟨w.heap.size + 1, 3, none⟩ = some (.int .i32 f3) := cell_later hb (by go_simp)
  have cm0 : w1.cell? ⟨w.heap.size + 1 + 1, 0, none⟩ = some (.int .i64 m0) := cell_later hb (by go_simp)
  have cm1 : w1.cell? ⟨w.heap.size + 1 + 1, 1, none⟩ = some (.int .i64 m1) := cell_later hb (by go_simp)
  have cm2 : w1.cell? ⟨w.heap.size + 1 + 1, 2, none⟩ = some (.int .i64 m2) := cell_later hb (by go_simp)
  have cm3 : w1.cell? ⟨w.heap.size + 1 + 1, 3, none⟩ = some (.int .i64 m3) := cell_later hb (by go_simp)
  have B1 : Below w.heap.size w w1 := by repeat (first | exact Below.refl _ _ | refine Below.setCell ?_ (by first | (simp; done) | omega | (simp; omega)) _ | refine below_drewN ?_ _ | refine Below.drew ?_ | refine Below.trans ?_ (Below.mono hb (by first | (simp; done) | omega | (simp; omega))) | refine Below.alloc ?_ (by first | (simp; done) | omega | (simp; omega)) _)
  clear hb
  have sw1_0_0 : w.heap.size < w1.heap.size := by omega
  have sw1_1_0 : w.heap.size + 1 < w1.heap.size := by omega
  have sw1_2_0 : w.heap.size + 1 + 1 < w1.heap.size := by omega
  go_wp2_with fail
  refine (evenStep_no _ _ _ _ _ _ _ _ _ _ _ _ _ _ _ ho0 ho1 ho2 ho3 hmost H.out).mono ?_
  rintro e_2 w2 ⟨rfl, hb⟩
  have zb2 := hb.size
  try (simp at zb2)
  have BA : Below w1.heap.size w1 w2 := by repeat (first | exact Below.refl _ _ | refine Below.setCell ?_ (by first | (simp; done) | omega | (simp; omega)) _ | refine below_drewN ?_ _ | refine Below.drew ?_ | refine Below.trans ?_ (Below.mono hb (by first | (simp; done) | omega | (simp; omega))) | refine Below.alloc ?_ (by first | (simp; done) | omega | (simp; omega)) _)
  have B2 : Below w.heap.size w w2 := by repeat (first | exact Below.refl _ _ | exact B1 | refine Below.setCell ?_ (by first | (simp; done) | omega | (simp; omega)) _ | refine below_drewN ?_ _ | refine Below.drew ?_ | refine Below.trans ?_ (Below.mono BA (by first | (simp; done) | omega | (simp; omega))) | refine Below.alloc ?_ (by first | (simp; done) | omega | (simp; omega)) _)
  clear hb BA B1 co0 co1 co2 co3 cf0 cf1 cf2 cf3 cm0 cm1 cm2 cm3
  go_wp2
  go_ret
  refine ⟨ret_bool (by first | rfl | (simp; done)), ?_⟩
  repeat (first | exact Below.refl _ _ | exact B2 | refine Below.setCell ?_ (by first | (simp; done) | omega | (simp; omega)) _ | refine below_drewN ?_ _ | refine Below.drew ?_ | refine Below.alloc ?_ (by first | (simp; done) | omega | (simp; omega)) _)
theorem law (o0 o1 o2 o3 f0 f1 f2 f3 m0 m1 m2 m3 bits most : Int) (w : World) (ho0 : -2147483648 ≤ o0 ∧ o0 ≤ 2147483647) (ho1 : -2147483648 ≤ o1 ∧ o1 ≤ 2147483647) (ho2 : -2147483648 ≤ o2 ∧ o2 ≤ 2147483647) (ho3 : -2147483648 ≤ o3 ∧ o3 ≤ 2147483647) (hf0 : -2147483648 ≤ f0 ∧ f0 ≤ 2147483647) (hf1 : -2147483648 ≤ f1 ∧ f1 ≤ 2147483647) (hf2 : -2147483648 ≤ f2 ∧ f2 ≤ 2147483647) (hf3 : -2147483648 ≤ f3 ∧ f3 ≤ 2147483647) (hm0 : -9223372036854775808 ≤ m0 ∧ m0 ≤ 9223372036854775807) (hm1 : -9223372036854775808 ≤ m1 ∧ m1 ≤ 9223372036854775807) (hm2 : -9223372036854775808 ≤ m2 ∧ m2 ≤ 9223372036854775807) (hm3 : -9223372036854775808 ≤ m3 ∧ m3 ≤ 9223372036854775807) (hbits : -9223372036854775808 ≤ bits ∧ bits ≤ 9223372036854775807) (hmost : -2147483648 ≤ most ∧ most ≤ 2147483647) :
    Calls Try.prog 9 #[.agg #[.int .i32 o0, .int .i32 o1, .int .i32 o2, .int .i32 o3], .agg #[.int .i32 f0, .int .i32 f1, .int .i32 f2, .int .i32 f3], .agg #[.int .i64 m0, .int .i64 m1, .int .i64 m2, .int .i64 m3], .int .i64 bits, .int .i32 most] w fun e w' => e = .returned (.bool true) ∧ Below w.heap.size w w' := by
  by_cases h : evenOk o0 o1 o2 o3 m0 m1 m2 m3 bits most
  · have h' := h
    unfold evenOk at h'
    have l0 := lane_ok m0 o0 f0 bits most (by omega) (by omega) (by omega) hf0 (by omega)
    have l1 := lane_ok m1 o1 f1 bits most (by omega) (by omega) (by omega) hf1 (by omega)
    have l2 := lane_ok m2 o2 f2 bits most (by omega) (by omega) (by omega) hf2 (by omega)
    have l3 := lane_ok m3 o3 f3 bits most (by omega) (by omega) (by omega) hf3 (by omega)
    exact yes o0 o1 o2 o3 f0 f1 f2 f3 m0 m1 m2 m3 bits most _ _ _ _ w ho0 ho1 ho2 ho3 hf0 hf1 hf2 hf3 hmost (x_bd _ _ _ _ _ (by omega) (by omega) l0) (x_bd _ _ _ _ _ (by omega) (by omega) l1) (x_bd _ _ _ _ _ (by omega) (by omega) l2) (x_bd _ _ _ _ _ (by omega) (by omega) l3) h rfl rfl rfl rfl l0 l1 l2 l3
  · exact no o0 o1 o2 o3 f0 f1 f2 f3 m0 m1 m2 m3 bits most w ho0 ho1 ho2 ho3 hf0 hf1 hf2 hf3 hmost h
set_option maxRecDepth 100000 in
theorem lifted (os : Os) (started : os.Started) (H : Type) (enc : TypeId × Value → H) :
    ReturnsInHanded {} Try.checked os 9 .any (Rows.evenBoundsSpec.pre6 enc Try.prog Try.f9 Rows.evenBoundsRow.domain false) (Rows.evenBoundsSpec.post enc Try.prog Try.f9 false true false false) := by
  refine returnsInHanded_of_change (C := Try.checked) own started (by kernel_rfl) Try.func9
    (ChangeSpec.witness6 (enc := enc) (C := Try.checked) false ⟨#[], #[.agg #[.int .i32 0, .int .i32 0, .int .i32 0, .int .i32 0], .agg #[.int .i32 0, .int .i32 0, .int .i32 0, .int .i32 0], .agg #[.int .i64 0, .int .i64 0, .int .i64 0, .int .i64 0], .int .i64 0, .int .i32 0], []⟩ 8 (by kernel_rfl) (by kernel_rfl) (by kernel_rfl) (by kernel_rfl)) ?_
  intro W base args ds gs before hval0 hW hcnd _
  have hval : ∀ (j : Nat) t v, Try.f9.params[j]? = some t → args[j]? = some v → Value.okWide Try.prog W .any base t v := hval0
  have hW' := hW
  obtain ⟨p, q, hA0, hV, rfl, hfz, hnd⟩ := hW
  have hA : DataW.TrodAll enc Try.prog W 0 (fun _ => true) true Try.f9.params.toList args.toList ds p := hA0
  rw [Try.params9] at hA hval
  obtain ⟨v0, vs0, d0, ds0, p0, q0, hargs, rfl, rfl, h0, r0⟩ := trodAll_cons hA
  obtain ⟨v1, vs1, d1, ds1, p1, q1, rfl, rfl, rfl, h1, r1⟩ := trodAll_cons r0
  obtain ⟨v2, vs2, d2, ds2, p2, q2, rfl, rfl, rfl, h2, r2⟩ := trodAll_cons r1
  obtain ⟨v3, vs3, d3, ds3, p3, q3, rfl, rfl, rfl, h3, r3⟩ := trodAll_cons r2
  obtain ⟨v4, vs4, d4, ds4, p4, q4, rfl, rfl, rfl, h4, r4⟩ := trodAll_cons r3
  obtain ⟨rfl, rfl, rfl⟩ := trodAll_nil r4
  obtain rfl : args = #[v0, v1, v2, v3, v4] := by cases args; simp_all
  obtain ⟨rfl, rfl⟩ := trodVars_none hV
  have k0 := h0
  have lt0 : ∀ x ∈ p0, x.block < W.heap.size := by obtain ⟨m, hm⟩ := k0; exact DataW.trod_lt m _ _ _ hm
  have k1 := h1
  have lt1 : ∀ x ∈ p1, x.block < W.heap.size := by obtain ⟨m, hm⟩ := k1; exact DataW.trod_lt m _ _ _ hm
  have k2 := h2
  have lt2 : ∀ x ∈ p2, x.block < W.heap.size := by obtain ⟨m, hm⟩ := k2; exact DataW.trod_lt m _ _ _ hm
  have k3 := h3
  have lt3 : ∀ x ∈ p3, x.block < W.heap.size := by obtain ⟨m, hm⟩ := k3; exact DataW.trod_lt m _ _ _ hm
  have k4 := h4
  have lt4 : ∀ x ∈ p4, x.block < W.heap.size := by obtain ⟨m, hm⟩ := k4; exact DataW.trod_lt m _ _ _ hm
  obtain ⟨cs0, rfl, lf0_0⟩ := open_flat 12 [21, 21, 21, 21] (by kernel_rfl) (by kernel_rfl) (by kernel_rfl) (hval 0 22 v0 rfl rfl) h0
  obtain ⟨c0_0, r0_0, rfl, y0_0, lf0_1⟩ := leafs_cons lf0_0
  obtain ⟨a0_0, rfl, w0_0⟩ := leaf_int Try.underlying21 y0_0
  obtain ⟨c0_1, r0_1, rfl, y0_1, lf0_2⟩ := leafs_cons lf0_1
  obtain ⟨a0_1, rfl, w0_1⟩ := leaf_int Try.underlying21 y0_1
  obtain ⟨c0_2, r0_2, rfl, y0_2, lf0_3⟩ := leafs_cons lf0_2
  obtain ⟨a0_2, rfl, w0_2⟩ := leaf_int Try.underlying21 y0_2
  obtain ⟨c0_3, r0_3, rfl, y0_3, lf0_4⟩ := leafs_cons lf0_3
  obtain ⟨a0_3, rfl, w0_3⟩ := leaf_int Try.underlying21 y0_3
  obtain rfl := leafs_nil lf0_4
  obtain ⟨cs1, rfl, lf1_0⟩ := open_flat 12 [21, 21, 21, 21] (by kernel_rfl) (by kernel_rfl) (by kernel_rfl) (hval 1 22 v1 rfl rfl) h1
  obtain ⟨c1_0, r1_0, rfl, y1_0, lf1_1⟩ := leafs_cons lf1_0
  obtain ⟨a1_0, rfl, w1_0⟩ := leaf_int Try.underlying21 y1_0
  obtain ⟨c1_1, r1_1, rfl, y1_1, lf1_2⟩ := leafs_cons lf1_1
  obtain ⟨a1_1, rfl, w1_1⟩ := leaf_int Try.underlying21 y1_1
  obtain ⟨c1_2, r1_2, rfl, y1_2, lf1_3⟩ := leafs_cons lf1_2
  obtain ⟨a1_2, rfl, w1_2⟩ := leaf_int Try.underlying21 y1_2
  obtain ⟨c1_3, r1_3, rfl, y1_3, lf1_4⟩ := leafs_cons lf1_3
  obtain ⟨a1_3, rfl, w1_3⟩ := leaf_int Try.underlying21 y1_3
  obtain rfl := leafs_nil lf1_4
  obtain ⟨cs2, rfl, lf2_0⟩ := open_flat 12 [3, 3, 3, 3] (by kernel_rfl) (by kernel_rfl) (by kernel_rfl) (hval 2 52 v2 rfl rfl) h2
  obtain ⟨c2_0, r2_0, rfl, y2_0, lf2_1⟩ := leafs_cons lf2_0
  obtain ⟨a2_0, rfl, w2_0⟩ := leaf_int Try.underlying3 y2_0
  obtain ⟨c2_1, r2_1, rfl, y2_1, lf2_2⟩ := leafs_cons lf2_1
  obtain ⟨a2_1, rfl, w2_1⟩ := leaf_int Try.underlying3 y2_1
  obtain ⟨c2_2, r2_2, rfl, y2_2, lf2_3⟩ := leafs_cons lf2_2
  obtain ⟨a2_2, rfl, w2_2⟩ := leaf_int Try.underlying3 y2_2
  obtain ⟨c2_3, r2_3, rfl, y2_3, lf2_4⟩ := leafs_cons lf2_3
  obtain ⟨a2_3, rfl, w2_3⟩ := leaf_int Try.underlying3 y2_3
  obtain rfl := leafs_nil lf2_4
  obtain ⟨a3, rfl, rfl, rfl, w3⟩ := open_int Try.underlying3 (hval 3 3 v3 rfl rfl) h3
  obtain ⟨a4, rfl, rfl, rfl, w4⟩ := open_int Try.underlying21 (hval 4 21 v4 rfl rfl) h4
  clear hA0 hval0
  refine (law a0_0 a0_1 a0_2 a0_3 a1_0 a1_1 a1_2 a1_3 a2_0 a2_1 a2_2 a2_3 a3 a4 W (bounds_i32 w0_0) (bounds_i32 w0_1) (bounds_i32 w0_2) (bounds_i32 w0_3) (bounds_i32 w1_0) (bounds_i32 w1_1) (bounds_i32 w1_2) (bounds_i32 w1_3) (bounds_i64 w2_0) (bounds_i64 w2_1) (bounds_i64 w2_2) (bounds_i64 w2_3) (bounds_i64 w3) (bounds_i32 w4)).mono fun e W' ⟨he, bel⟩ => ?_
  subst he
  exact ⟨_, rfl, _, _, _, [], _, [], hW', trodAll_mk1 (shut_bool Try.underlying4 _), (trodAll_cons_mk (Below.trod laidOut (by kernel_rfl) (of_decide_eq_true (by kernel_rfl)) k0 bel lt0) (trodAll_cons_mk (Below.trod laidOut (by kernel_rfl) (of_decide_eq_true (by kernel_rfl)) k1 bel lt1) (trodAll_cons_mk (Below.trod laidOut (by kernel_rfl) (of_decide_eq_true (by kernel_rfl)) k2 bel lt2) (trodAll_cons_mk (Below.trod laidOut (by kernel_rfl) (of_decide_eq_true (by kernel_rfl)) k3 bel lt3) (trodAll_cons_mk (Below.trod laidOut (by kernel_rfl) (of_decide_eq_true (by kernel_rfl)) k4 bel lt4) trodAll_mk0))))), rfl, bel.frame _, fun h => by cases h⟩
theorem over : Rows.evenBoundsRow.holds Try.pinned (OpenSpec.ofChange Rows.evenBoundsSpec) :=
  OpenClaim.holds_of_wide 9 Try.f9 rfl rfl rfl rfl rfl rfl rfl ⟨rfl, rfl, rfl, rfl, rfl⟩ rfl rfl rfl rfl rfl (by kernel_rfl) Try.func9 (by kernel_rfl)
    (of_decide_eq_true (by kernel_rfl)) (by unfold Func.isWrapper; first | (rw [if_pos (by decide +kernel)]; kernel_rfl) | (rw [if_neg (by decide +kernel)]; exact ⟨rfl, rfl⟩))
    (fun os started H enc _ => lifted os started H enc)
theorem proved : Rows.EvenBoundsSaid := over
#print axioms proved

end Go.Proofs.Ytacelddnklnhpaa.evenBounds
