/- What even.Step computes. -/
import Derived.Test.YtacelddnklnhpaaEven
namespace Go.Proofs.Ytacelddnklnhpaa
open Go.ChangeShapes Go.WideShapes Go.ChangeAt Go.RowKit
set_option linter.unusedVariables false

/-- an offset behind a step -/
def evenI (m o f bits most : Int) : Int := if m = 1 then clampI (sat32 (o - f.tdiv (2 ^ bits.toNat))) (-most) most else lowI o 0 bits
theorem evenI_yes (m o f bits most p : Int) (hp : (2 : Int) ^ bits.toNat = p) (h : m = 1) : evenI m o f bits most = clampI (sat32 (o - f.tdiv p)) (-most) most := by rw [← hp]; exact if_pos h
theorem evenI_no (m o f bits most : Int) (h : ¬ m = 1) : evenI m o f bits most = lowI o 0 bits := if_neg h
set_option maxHeartbeats 8000000 in
set_option maxRecDepth 100000 in
theorem evenStep_yes (o0 o1 o2 o3 f0 f1 f2 f3 m0 m1 m2 m3 bits most x0 x1 x2 x3 : Int) (w : World) (ho0 : -2147483648 ≤ o0 ∧ o0 ≤ 2147483647) (ho1 : -2147483648 ≤ o1 ∧ o1 ≤ 2147483647) (ho2 : -2147483648 ≤ o2 ∧ o2 ≤ 2147483647) (ho3 : -2147483648 ≤ o3 ∧ o3 ≤ 2147483647) (hf0 : -2147483648 ≤ f0 ∧ f0 ≤ 2147483647) (hf1 : -2147483648 ≤ f1 ∧ f1 ≤ 2147483647) (hf2 : -2147483648 ≤ f2 ∧ f2 ≤ 2147483647) (hf3 : -2147483648 ≤ f3 ∧ f3 ≤ 2147483647) (hmost : -2147483648 ≤ most ∧ most ≤ 2147483647) (h : evenOk o0 o1 o2 o3 m0 m1 m2 m3 bits most)
    (e0 : evenI m0 o0 f0 bits most = x0) (e1 : evenI m1 o1 f1 bits most = x1) (e2 : evenI m2 o2 f2 bits most = x2) (e3 : evenI m3 o3 f3 bits most = x3) :
    Calls Try.prog 27 #[.agg #[.int .i32 o0, .int .i32 o1, .int .i32 o2, .int .i32 o3], .agg #[.int .i32 f0, .int .i32 f1, .int .i32 f2, .int .i32 f3], .agg #[.int .i64 m0, .int .i64 m1, .int .i64 m2, .int .i64 m3], .int .i64 bits, .int .i32 most] w fun e w' => e = .returned (.tuple #[.agg #[.int .i32 x0, .int .i32 x1, .int .i32 x2, .int .i32 x3], .int .i64 0]) ∧ Below w.heap.size w w' := by
  have ix0 : ∀ w : World, (Instr.index 52 (.agg #[.int .i64 m0, .int .i64 m1, .int .i64 m2, .int .i64 m3]) (.int .i64 0)).run Try.prog w = .ok (.int .i64 m0) w := fun _ => by kernel_rfl
  have ix1 : ∀ w : World, (Instr.index 52 (.agg #[.int .i64 m0, .int .i64 m1, .int .i64 m2, .int .i64 m3]) (.int .i64 1)).run Try.prog w = .ok (.int .i64 m1) w := fun _ => by kernel_rfl
  have ix2 : ∀ w : World, (Instr.index 52 (.agg #[.int .i64 m0, .int .i64 m1, .int .i64 m2, .int .i64 m3]) (.int .i64 2)).run Try.prog w = .ok (.int .i64 m2) w := fun _ => by kernel_rfl
  have ix3 : ∀ w : World, (Instr.index 52 (.agg #[.int .i64 m0, .int .i64 m1, .int .i64 m2, .int .i64 m3]) (.int .i64 3)).run Try.prog w = .ok (.int .i64 m3) w := fun _ => by kernel_rfl
  have H := Lib.hid h; have E0 := Lib.hid e0; have E1 := Lib.hid e1; have E2 := Lib.hid e2; have E3 := Lib.hid e3
  have hbits : 0 ≤ bits ∧ bits ≤ 30 := ⟨h.1, h.2.1⟩
  have hm : 0 ≤ most := h.2.2.1
  have hp := two_pow_bd bits hbits
  obtain ⟨p, hP⟩ : ∃ p, (2 : Int) ^ bits.toNat = p := ⟨_, rfl⟩
  rw [hP] at hp
  have HP := Lib.hid hP
  clear h e0 e1 e2 e3
  go_enter Try.func27, Try.ntmps27
  go_wp2_with fail
  refine (evenCheck_yes _ _ _ _ _ _ _ _ _ _ _ (by omega) (by omega) (by omega) (by omega) (by omega) H.out).mono ?_
  rintro e_w1 w1 ⟨rfl, hb⟩
  have zhb := hb.size
  obtain ⟨chb, fhb⟩ := Open.bcell hb
  try (simp at zhb)
  go_wp2
  go_loopw [25] (fun i wr => ∃ k : Nat, k ≤ 4 ∧ i = .int .i64 k ∧ Below w.heap.size w wr ∧ w.heap.size + 1 + 1 + 1 < wr.heap.size ∧
      wr.cell? ⟨w.heap.size, 0, none⟩ = some (.int .i32 (if 0 < k then x0 else o0)) ∧ wr.cell? ⟨w.heap.size, 1, none⟩ = some (.int .i32 (if 1 < k then x1 else o1)) ∧ wr.cell? ⟨w.heap.size, 2, none⟩ = some (.int .i32 (if 2 < k then x2 else o2)) ∧ wr.cell? ⟨w.heap.size, 3, none⟩ = some (.int .i32 (if 3 < k then x3 else o3)) ∧
      wr.cell? ⟨w.heap.size + 1, 0, none⟩ = some (.int .i32 f0) ∧ wr.cell? ⟨w.heap.size + 1, 1, none⟩ = some (.int .i32 f1) ∧ wr.cell? ⟨w.heap.size + 1, 2, none⟩ = some (.int .i32 f2) ∧ wr.cell? ⟨w.heap.size + 1, 3, none⟩ = some (.int .i32 f3) ∧
      wr.cell? ⟨w.heap.size + 1 + 1 + 1, 0, none⟩ = some (.int .i32 0) ∧ wr.cell? ⟨w.heap.size + 1 + 1 + 1, 1, none⟩ = some (.int .i32 0) ∧ wr.cell? ⟨w.heap.size + 1 + 1 + 1, 2, none⟩ = some (.int .i32 0) ∧ wr.cell? ⟨w.heap.size + 1 + 1 + 1, 3, none⟩ = some (.int .i32 0) ∧
      (∀ o, wr.frozen? ⟨w.heap.size, o, none⟩ = false) ∧ (∀ o, wr.frozen? ⟨w.heap.size + 1 + 1 + 1, o, none⟩ = false)) (fun i _ => 4 - (intOf i).toNat)
  case atStart =>
    refine ⟨0, by omega, rfl, ?_, by omega, ?_, ?_, ?_, ?_, ?_, ?_, ?_, ?_, ?_, ?_, ?_, ?_, ?_, ?_⟩
    · repeat (first | exact Below.refl _ _ | refine Below.setCell ?_ (by first | (simp; done) | omega | (simp; omega)) _ | refine below_drewN ?_ _ | refine Below.drew ?_ | refine Below.trans ?_ (Below.mono hb (by first | (simp; done) | omega | (simp; omega))) | refine Below.alloc ?_ (by first | (simp; done) | omega | (simp; omega)) _)
    iterate 12 (rw [chb _ _ (by first | (simp; done) | omega | (simp; omega))]; go_simp)
    · intro o; rw [fhb _ _ (by first | (simp; done) | omega | (simp; omega))]; go_simp
    · intro o; rw [fhb _ _ (by first | (simp; done) | omega | (simp; omega))]; go_simp
  case round =>
    clear hb chb fhb zhb
    obtain ⟨k, hk, rfl, hB, hsz, c0, c1, c2, c3, q0, q1, q2, q3, r0, r1, r2, r3, g1, g2⟩ := hrel
    rcases (by omega : k = 0 ∨ k = 1 ∨ k = 2 ∨ k = 3 ∨ k = 4) with rfl | rfl | rfl | rfl | rfl
    · change wr.cell? _ = some (Value.int .i32 o0) at c0
      change wr.cell? _ = some (Value.int .i32 o1) at c1
      change wr.cell? _ = some (Value.int .i32 o2) at c2
      change wr.cell? _ = some (Value.int .i32 o3) at c3
      by_cases hm1 : m0 = 1
      · have t1 : (m0 == 1) = true := by simpa using hm1
        have X := Lib.hid ((evenI_yes m0 o0 f0 bits most p HP.out hm1).symm.trans E0.out)
        clear hm1
        have hd : -2147483648 ≤ f0.tdiv p ∧ f0.tdiv p ≤ 2147483648 := by
          have := tdiv_bd f0 p; unfold absI at this; omega
        have hd2 : f0.tdiv p ≤ 2147483647 := by
          by_cases hs : 0 ≤ f0
          · have := tdiv_pos_bd f0 p hp.1 hs; omega
          · have := tdiv_neg_bd f0 p hp.1 (by omega); omega
        go_wp2
        have hne : p ≠ 0 := by omega
        have hw1 := IntWalk.i32_in p (by omega)
        have hw2 := IntWalk.i32_in (f0.tdiv p) (by omega)
        have hw3 := IntWalk.i32_in (-most) (by omega)
        have hb3 := sat32_bd (o0 - f0.tdiv p)
        refine wp_region_still_tail 16 (by kernel_rfl) (by kernel_rfl) ?_
        simp only [List.take_succ_cons, List.take_zero, List.drop_succ_cons, List.drop_zero]
        repeat still_step
        still_call (stillL (sub_any _ _ (by omega) (by omega) _))
        repeat still_step
        still_call (stillL (clamp_any _ _ _ _))
        repeat still_step
        refine wpStill_nil ?_
        change wpList _ _ _ _ _ wr.drew
        clear hw1 hw2 hw3 hne
        go_wp2
        go_roundw
        case rel =>
          refine ⟨1, by omega, rfl, ?_, by simpa using hsz, ?_, ?_, ?_, ?_, ?_, ?_, ?_, ?_, ?_, ?_, ?_, ?_, ?_, ?_⟩
          · repeat (first | exact Below.refl _ _ | exact hB | refine Below.setCell ?_ (by first | (simp; done) | omega | (simp; omega)) _ | refine below_drewN ?_ _ | refine Below.drew ?_ | refine Below.alloc ?_ (by first | (simp; done) | omega | (simp; omega)) _)
          · change _ = some (Value.int .i32 x0); (first | rw [← X.out] | skip); go_simp
          · change _ = some (Value.int .i32 o1); (first | rw [← X.out] | skip); go_simp
          · change _ = some (Value.int .i32 o2); (first | rw [← X.out] | skip); go_simp
          · change _ = some (Value.int .i32 o3); (first | rw [← X.out] | skip); go_simp
          iterate 8 (go_simp)
          · intro o; go_simp
          · intro o; go_simp
        case measure => simp [intOf]
      · have t1 : (m0 == 1) = false := by simpa using hm1
        have X := Lib.hid ((evenI_no m0 o0 f0 bits most hm1).symm.trans E0.out)
        go_wp2_with (go_at_call 51; refine (low_any _ _ _ (by omega) (by omega) _).mono ?_; rintro e w' ⟨rfl, rfl⟩)
        go_roundw
        case rel =>
          refine ⟨1, by omega, rfl, ?_, by simpa using hsz, ?_, ?_, ?_, ?_, ?_, ?_, ?_, ?_, ?_, ?_, ?_, ?_, ?_, ?_⟩
          · repeat (first | exact Below.refl _ _ | exact hB | refine Below.setCell ?_ (by first | (simp; done) | omega | (simp; omega)) _ | refine below_drewN ?_ _ | refine Below.drew ?_ | refine Below.alloc ?_ (by first | (simp; done) | omega | (simp; omega)) _)
          · change _ = some (Value.int .i32 x0); (first | rw [← X.out] | skip); go_simp
          · change _ = some (Value.int .i32 o1); (first | rw [← X.out] | skip); go_simp
          · change _ = some (Value.int .i32 o2); (first | rw [← X.out] | skip); go_simp
          · change _ = some (Value.int .i32 o3); (first | rw [← X.out] | skip); go_simp
          iterate 8 (go_simp)
          · intro o; go_simp
          · intro o; go_simp
        case measure => simp [intOf]
    · change wr.cell? _ = some (Value.int .i32 x0) at c0
      change wr.cell? _ = some (Value.int .i32 o1) at c1
      change wr.cell? _ = some (Value.int .i32 o2) at c2
      change wr.cell? _ = some (Value.int .i32 o3) at c3
      by_cases hm1 : m1 = 1
      · have t1 : (m1 == 1) = true := by simpa using hm1
        have X := Lib.hid ((evenI_yes m1 o1 f1 bits most p HP.out hm1).symm.trans E1.out)
        clear hm1
        have hd : -2147483648 ≤ f1.tdiv p ∧ f1.tdiv p ≤ 2147483648 := by
          have := tdiv_bd f1 p; unfold absI at this; omega
        have hd2 : f1.tdiv p ≤ 2147483647 := by
          by_cases hs : 0 ≤ f1
          · have := tdiv_pos_bd f1 p hp.1 hs; omega
          · have := tdiv_neg_bd f1 p hp.1 (by omega); omega
        go_wp2
        have hne : p ≠ 0 := by omega
        have hw1 := IntWalk.i32_in p (by omega)
        have hw2 := IntWalk.i32_in (f1.tdiv p) (by omega)
        have hw3 := IntWalk.i32_in (-most) (by omega)
        have hb3 := sat32_bd (o1 - f1.tdiv p)
        refine wp_region_still_tail 16 (by kernel_rfl) (by kernel_rfl) ?_
        simp only [List.take_succ_cons, List.take_zero, List.drop_succ_cons, List.drop_zero]
        repeat still_step
        still_call (stillL (sub_any _ _ (by omega) (by omega) _))
        repeat still_step
        still_call (stillL (clamp_any _ _ _ _))
        repeat still_step
        refine wpStill_nil ?_
        change wpList _ _ _ _ _ wr.drew
        clear hw1 hw2 hw3 hne
        go_wp2
        go_roundw
        case rel =>
          refine ⟨2, by omega, rfl, ?_, by simpa using hsz, ?_, ?_, ?_, ?_, ?_, ?_, ?_, ?_, ?_, ?_, ?_, ?_, ?_, ?_⟩
          · repeat (first | exact Below.refl _ _ | exact hB | refine Below.setCell ?_ (by first | (simp; done) | omega | (simp; omega)) _ | refine below_drewN ?_ _ | refine Below.drew ?_ | refine Below.alloc ?_ (by first | (simp; done) | omega | (simp; omega)) _)
          · change _ = some (Value.int .i32 x0); (first | rw [← X.out] | skip); go_simp
          · change _ = some (Value.int .i32 x1); (first | rw [← X.out] | skip); go_simp
          · change _ = some (Value.int .i32 o2); (first | rw [← X.out] | skip); go_simp
          · change _ = some (Value.int .i32 o3); (first | rw [← X.out] | skip); go_simp
          iterate 8 (go_simp)
          · intro o; go_simp
          · intro o; go_simp
        case measure => simp [intOf]
      · have t1 : (m1 == 1) = false := by simpa using hm1
        have X := Lib.hid ((evenI_no m1 o1 f1 bits most hm1).symm.trans E1.out)
        go_wp2_with (go_at_call 51; refine (low_any _ _ _ (by omega) (by omega) _).mono ?_; rintro e w' ⟨rfl, rfl⟩)
        go_roundw
        case rel =>
          refine ⟨2, by omega, rfl, ?_, by simpa using hsz, ?_, ?_, ?_, ?_, ?_, ?_, ?_, ?_, ?_, ?_, ?_, ?_, ?_, ?_⟩
          · repeat (first | exact Below.refl _ _ | exact hB | refine Below.setCell ?_ (by first | (simp; done) | omega | (simp; omega)) _ | refine below_drewN ?_ _ | refine Below.drew ?_ | refine Below.alloc ?_ (by first | (simp; done) | omega | (simp; omega)) _)
          · change _ = some (Value.int .i32 x0); (first | rw [← X.out] | skip); go_simp
          · change _ = some (Value.int .i32 x1); (first | rw [← X.out] | skip); go_simp
          · change _ = some (Value.int .i32 o2); (first | rw [← X.out] | skip); go_simp
          · change _ = some (Value.int .i32 o3); (first | rw [← X.out] | skip); go_simp
          iterate 8 (go_simp)
          · intro o; go_simp
          · intro o; go_simp
        case measure => simp [intOf]
    · change wr.cell? _ = some (Value.int .i32 x0) at c0
      change wr.cell? _ = some (Value.int .i32 x1) at c1
      change wr.cell? _ = some (Value.int .i32 o2) at c2
      change wr.cell? _ = some (Value.int .i32 o3) at c3
      by_cases hm1 : m2 = 1
      · have t1 : (m2 == 1) = true := by simpa using hm1
        have X := Lib.hid ((evenI_yes m2 o2 f2 bits most p HP.out hm1).symm.trans E2.out)
        clear hm1
        have hd : -2147483648 ≤ f2.tdiv p ∧ f2.tdiv p ≤ 2147483648 := by
          have := tdiv_bd f2 p; unfold absI at this; omega
        have hd2 : f2.tdiv p ≤ 2147483647 := by
          by_cases hs : 0 ≤ f2
          · have := tdiv_pos_bd f2 p hp.1 hs; omega
          · have := tdiv_neg_bd f2 p hp.1 (by omega); omega
        go_wp2
        have hne : p ≠ 0 := by omega
        have hw1 := IntWalk.i32_in p (by omega)
        have hw2 := IntWalk.i32_in (f2.tdiv p) (by omega)
        have hw3 := IntWalk.i32_in (-most) (by omega)
        have hb3 := sat32_bd (o2 - f2.tdiv p)
        refine wp_region_still_tail 16 (by kernel_rfl) (by kernel_rfl) ?_
        simp only [List.take_succ_cons, List.take_zero, List.drop_succ_cons, List.drop_zero]
        repeat still_step
        still_call (stillL (sub_any _ _ (by omega) (by omega) _))
        repeat still_step
        still_call (stillL (clamp_any _ _ _ _))
        repeat still_step
        refine wpStill_nil ?_
        change wpList _ _ _ _ _ wr.drew
        clear hw1 hw2 hw3 hne
        go_wp2
        go_roundw
        case rel =>
          refine ⟨3, by omega, rfl, ?_, by simpa using hsz, ?_, ?_, ?_, ?_, ?_, ?_, ?_, ?_, ?_, ?_, ?_, ?_, ?_, ?_⟩
          · repeat (first | exact Below.refl _ _ | exact hB | refine Below.setCell ?_ (by first | (simp; done) | omega | (simp; omega)) _ | refine below_drewN ?_ _ | refine Below.drew ?_ | refine Below.alloc ?_ (by first | (simp; done) | omega | (simp; omega)) _)
          · change _ = some (Value.int .i32 x0); (first | rw [← X.out] | skip); go_simp
          · change _ = some (Value.int .i32 x1); (first | rw [← X.out] | skip); go_simp
          · change _ = some (Value.int .i32 x2); (first | rw [← X.out] | skip); go_simp
          · change _ = some (Value.int .i32 o3); (first | rw [← X.out] | skip); go_simp
          iterate 8 (go_simp)
          · intro o; go_simp
          · intro o; go_simp
        case measure => simp [intOf]
      · have t1 : (m2 == 1) = false := by simpa using hm1
        have X := Lib.hid ((evenI_no m2 o2 f2 bits most hm1).symm.trans E2.out)
        go_wp2_with (go_at_call 51; refine (low_any _ _ _ (by omega) (by omega) _).mono ?_; rintro e w' ⟨rfl, rfl⟩)
        go_roundw
        case rel =>
          refine ⟨3, by omega, rfl, ?_, by simpa using hsz, ?_, ?_, ?_, ?_, ?_, ?_, ?_, ?_, ?_, ?_, ?_, ?_, ?_, ?_⟩
          · repeat (first | exact Below.refl _ _ | exact hB | refine Below.setCell ?_ (by first | (simp; done) | omega | (simp; omega)) _ | refine below_drewN ?_ _ | refine Below.drew ?_ | refine Below.alloc ?_ (by first | (simp; done) | omega | (simp; omega)) _)
          · change _ = some (Value.int .i32 x0); (first | rw [← X.out] | skip); go_simp
          · change _ = some (Value.int .i32 x1); (first | rw [← X.out] | skip); go_simp
          · change _ = some (Value.int .i32 x2); (first | rw [← X.out] | skip); go_simp
          · change _ = some (Value.int .i32 o3); (first | rw [← X.out] | skip); go_simp
          iterate 8 (go_simp)
          · intro o; go_simp
          · intro o; go_simp
        case measure => simp [intOf]
    · change wr.cell? _ = some (Value.int .i32 x0) at c0
      change wr.cell? _ = some (Value.int .i32 x1) at c1
      change wr.cell? _ = some (Value.int .i32 x2) at c2
      change wr.cell? _ = some (Value.int .i32 o3) at c3
      by_cases hm1 : m3 = 1
      · have t1 : (m3 == 1) = true := by simpa using hm1
        have X := Lib.hid ((evenI_yes m3 o3 f3 bits most p HP.out hm1).symm.trans E3.out)
        clear hm1
        have hd : -2147483648 ≤ f3.tdiv p ∧ f3.tdiv p ≤ 2147483648 := by
          have := tdiv_bd f3 p; unfold absI at this; omega
        have hd2 : f3.tdiv p ≤ 2147483647 := by
          by_cases hs : 0 ≤ f3
          · have := tdiv_pos_bd f3 p hp.1 hs; omega
          · have := tdiv_neg_bd f3 p hp.1 (by omega); omega
        go_wp2
        have hne : p ≠ 0 := by omega
        have hw1 := IntWalk.i32_in p (by omega)
        have hw2 := IntWalk.i32_in (f3.tdiv p) (by omega)
        have hw3 := IntWalk.i32_in (-most) (by omega)
        have hb3 := sat32_bd (o3 - f3.tdiv p)
        refine wp_region_still_tail 16 (by kernel_rfl) (by kernel_rfl) ?_
        simp only [List.take_succ_cons, List.take_zero, List.drop_succ_cons, List.drop_zero]
        repeat still_step
        still_call (stillL (sub_any _ _ (by omega) (by omega) _))
        repeat still_step
        still_call (stillL (clamp_any _ _ _ _))
        repeat still_step
        refine wpStill_nil ?_
        change wpList _ _ _ _ _ wr.drew
        clear hw1 hw2 hw3 hne
        go_wp2
        go_roundw
        case rel =>
          refine ⟨4, by omega, rfl, ?_, by simpa using hsz, ?_, ?_, ?_, ?_, ?_, ?_, ?_, ?_, ?_, ?_, ?_, ?_, ?_, ?_⟩
          · repeat (first | exact Below.refl _ _ | exact hB | refine Below.setCell ?_ (by first | (simp; done) | omega | (simp; omega)) _ | refine below_drewN ?_ _ | refine Below.drew ?_ | refine Below.alloc ?_ (by first | (simp; done) | omega | (simp; omega)) _)
          · change _ = some (Value.int .i32 x0); (first | rw [← X.out] | skip); go_simp
          · change _ = some (Value.int .i32 x1); (first | rw [← X.out] | skip); go_simp
          · change _ = some (Value.int .i32 x2); (first | rw [← X.out] | skip); go_simp
          · change _ = some (Value.int .i32 x3); (first | rw [← X.out] | skip); go_simp
          iterate 8 (go_simp)
          · intro o; go_simp
          · intro o; go_simp
        case measure => simp [intOf]
      · have t1 : (m3 == 1) = false := by simpa using hm1
        have X := Lib.hid ((evenI_no m3 o3 f3 bits most hm1).symm.trans E3.out)
        go_wp2_with (go_at_call 51; refine (low_any _ _ _ (by omega) (by omega) _).mono ?_; rintro e w' ⟨rfl, rfl⟩)
        go_roundw
        case rel =>
          refine ⟨4, by omega, rfl, ?_, by simpa using hsz, ?_, ?_, ?_, ?_, ?_, ?_, ?_, ?_, ?_, ?_, ?_, ?_, ?_, ?_⟩
          · repeat (first | exact Below.refl _ _ | exact hB | refine Below.setCell ?_ (by first | (simp; done) | omega | (simp; omega)) _ | refine below_drewN ?_ _ | refine Below.drew ?_ | refine Below.alloc ?_ (by first | (simp; done) | omega | (simp; omega)) _)
          · change _ = some (Value.int .i32 x0); (first | rw [← X.out] | skip); go_simp
          · change _ = some (Value.int .i32 x1); (first | rw [← X.out] | skip); go_simp
          · change _ = some (Value.int .i32 x2); (first | rw [← X.out] | skip); go_simp
          · change _ = some (Value.int .i32 x3); (first | rw [← X.out] | skip); go_simp
          iterate 8 (go_simp)
          · intro o; go_simp
          · intro o; go_simp
        case measure => simp [intOf]
    · change wr.cell? _ = some (Value.int .i32 x0) at c0
      change wr.cell? _ = some (Value.int .i32 x1) at c1
      change wr.cell? _ = some (Value.int .i32 x2) at c2
      change wr.cell? _ = some (Value.int .i32 x3) at c3
      go_wp2
      refine bodyPost_ret (v := .tuple #[.agg #[.int .i32 x0, .int .i32 x1, .int .i32 x2, .int .i32 x3], .int .i64 0]) (by simp [results, Try.results27, go_sem, r0, r1, r2, r3]) rfl ⟨rfl, ?_⟩
      repeat (first | exact Below.refl _ _ | exact hB | refine Below.setCell ?_ (by first | (simp; done) | omega | (simp; omega)) _ | refine below_drewN ?_ _ | refine Below.drew ?_ | refine Below.alloc ?_ (by first | (simp; done) | omega | (simp; omega)) _)
set_option maxHeartbeats 1000000 in
theorem evenStep_no (o0 o1 o2 o3 f0 f1 f2 f3 m0 m1 m2 m3 bits most : Int) (w : World) (ho0 : -2147483648 ≤ o0 ∧ o0 ≤ 2147483647) (ho1 : -2147483648 ≤ o1 ∧ o1 ≤ 2147483647) (ho2 : -2147483648 ≤ o2 ∧ o2 ≤ 2147483647) (ho3 : -2147483648 ≤ o3 ∧ o3 ≤ 2147483647) (hmost : -2147483648 ≤ most ∧ most ≤ 2147483647) (h : ¬ evenOk o0 o1 o2 o3 m0 m1 m2 m3 bits most) :
    Calls Try.prog 27 #[.agg #[.int .i32 o0, .int .i32 o1, .int .i32 o2, .int .i32 o3], .agg #[.int .i32 f0, .int .i32 f1, .int .i32 f2, .int .i32 f3], .agg #[.int .i64 m0, .int .i64 m1, .int .i64 m2, .int .i64 m3], .int .i64 bits, .int .i32 most] w fun e w' => e = .returned (.tuple #[.agg #[.int .i32 0, .int .i32 0, .int .i32 0, .int .i32 0], .int .i64 1]) ∧ Below w.heap.size w w' := by
  have H := Lib.hid h
  clear h
  go_enter Try.func27, Try.ntmps27
  go_wp2_with fail
  refine (evenCheck_no _ _ _ _ _ _ _ _ _ _ _ (by omega) (by omega) (by omega) (by omega) (by omega) H.out).mono ?_
  rintro e_w1 w1 ⟨rfl, hb⟩
  have zhb := hb.size
  obtain ⟨chb, fhb⟩ := Open.bcell hb
  try (simp at zhb)
  go_wp2
  refine bodyPost_ret (v := .tuple #[.agg #[.int .i32 0, .int .i32 0, .int .i32 0, .int .i32 0], .int .i64 1]) (by simp [results, Try.results27, go_sem, chb]) rfl ⟨rfl, ?_⟩
  repeat (first | exact Below.refl _ _ | refine Below.setCell ?_ (by first | (simp; done) | omega | (simp; omega)) _ | refine below_drewN ?_ _ | refine Below.drew ?_ | refine Below.trans ?_ (Below.mono hb (by first | (simp; done) | omega | (simp; omega))) | refine Below.alloc ?_ (by first | (simp; done) | omega | (simp; omega)) _)

end Go.Proofs.Ytacelddnklnhpaa
