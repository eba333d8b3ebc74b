/- RamFights: whatever the pushes and the modes of the lanes are, the law answers true and leaves memory as it was. -/
import Derived.Test.YtacelddnklnhpaaRam
namespace Go.Proofs.Ytacelddnklnhpaa.ramFights
open Go.ChangeShapes Go.WideShapes Go.ChangeAt Go.RowKit Go.Proofs.Ytacelddnklnhpaa Go.Proofs.Ytacelddnklnhpaa.Open
set_option linter.unusedVariables false
theorem fight_is (p0 p1 p2 p3 m0 m1 m2 m3 o0 o1 o2 o3 : Int) (w : World) (h : ModesOk m0 m1 m2 m3) (hp0 : -2147483648 ≤ p0 ∧ p0 ≤ 2147483647) (hp1 : -2147483648 ≤ p1 ∧ p1 ≤ 2147483647) (hp2 : -2147483648 ≤ p2 ∧ p2 ≤ 2147483647) (hp3 : -2147483648 ≤ p3 ∧ p3 ≤ 2147483647)
    (e0 : fightI m0 m1 m2 m3 p0 p1 p2 p3 m0 p0 = o0) (e1 : fightI m0 m1 m2 m3 p0 p1 p2 p3 m1 p1 = o1) (e2 : fightI m0 m1 m2 m3 p0 p1 p2 p3 m2 p2 = o2) (e3 : fightI m0 m1 m2 m3 p0 p1 p2 p3 m3 p3 = o3) :
    Calls Try.prog 21 #[.agg #[.int .i32 p0, .int .i32 p1, .int .i32 p2, .int .i32 p3], .agg #[.int .i64 m0, .int .i64 m1, .int .i64 m2, .int .i64 m3]] w fun e w' => e = .returned (.tuple #[.agg #[.int .i32 o0, .int .i32 o1, .int .i32 o2, .int .i32 o3], .int .i64 0]) ∧ Below w.heap.size w w' := by
  subst e0 e1 e2 e3
  exact fight_yes p0 p1 p2 p3 m0 m1 m2 m3 w h hp0 hp1 hp2 hp3
def isEnd (x : Int) : Bool := x == 2147483647 || x == -2147483648
theorem fight_in (m0 m1 m2 m3 p0 p1 p2 p3 m p x : Int) (h : fightI m0 m1 m2 m3 p0 p1 p2 p3 m p = x) (he : isEnd x = false) :
    x = actI m (p - (fSum m0 m1 m2 m3 p0 p1 p2 p3 4).tdiv (fMany m0 m1 m2 m3 4)) := by
  unfold fightI at h; unfold actI
  generalize (fSum m0 m1 m2 m3 p0 p1 p2 p3 4).tdiv (fMany m0 m1 m2 m3 4) = q at *
  unfold isEnd at he
  simp only [Bool.or_eq_false_iff, beq_eq_false_iff_ne] at he
  split at h <;> rename_i c
  · rw [if_pos c]; unfold sat32 at h; omega
  · rw [if_neg c]; exact h.symm
theorem quo (S N : Int) (h : 1 ≤ N) : -N < S - N * S.tdiv N ∧ S - N * S.tdiv N < N := by
  have h1 := Int.mul_tdiv_add_tmod S N; have h2 := tmod_bd S N (by omega); omega
theorem fights (m0 m1 m2 m3 p0 p1 p2 p3 x0 x1 x2 x3 : Int)
    (e0 : fightI m0 m1 m2 m3 p0 p1 p2 p3 m0 p0 = x0) (e1 : fightI m0 m1 m2 m3 p0 p1 p2 p3 m1 p1 = x1) (e2 : fightI m0 m1 m2 m3 p0 p1 p2 p3 m2 p2 = x2) (e3 : fightI m0 m1 m2 m3 p0 p1 p2 p3 m3 p3 = x3)
    (g0 : isEnd x0 = false) (g1 : isEnd x1 = false) (g2 : isEnd x2 = false) (g3 : isEnd x3 = false) :
    (fMany m0 m1 m2 m3 4 = 0 ∧ x0 + x1 + x2 + x3 = 0) ∨ (fMany m0 m1 m2 m3 4 = 1 ∧ x0 + x1 + x2 + x3 = 0) ∨
    (2 ≤ fMany m0 m1 m2 m3 4 ∧ -(fMany m0 m1 m2 m3 4) < x0 + x1 + x2 + x3 ∧ x0 + x1 + x2 + x3 < fMany m0 m1 m2 m3 4) := by
  have a0 := fight_in _ _ _ _ _ _ _ _ _ _ _ e0 g0
  have a1 := fight_in _ _ _ _ _ _ _ _ _ _ _ e1 g1
  have a2 := fight_in _ _ _ _ _ _ _ _ _ _ _ e2 g2
  have a3 := fight_in _ _ _ _ _ _ _ _ _ _ _ e3 g3
  have hq := quo (fSum m0 m1 m2 m3 p0 p1 p2 p3 4) (fMany m0 m1 m2 m3 4)
  have hb := fMany_bd m0 m1 m2 m3 4
  clear e0 e1 e2 e3 g0 g1 g2 g3
  generalize hQ : (fSum m0 m1 m2 m3 p0 p1 p2 p3 4).tdiv (fMany m0 m1 m2 m3 4) = q at *
  have hs : fSum m0 m1 m2 m3 p0 p1 p2 p3 4 = actI m0 p0 + actI m1 p1 + actI m2 p2 + actI m3 p3 := rfl
  have hn : fMany m0 m1 m2 m3 4 = actI m0 1 + actI m1 1 + actI m2 1 + actI m3 1 := rfl
  rw [hs] at hq
  have key : ∀ m p : Int, (m = 1 ∧ actI m p = p ∧ actI m 1 = 1 ∧ actI m (p - q) = p - q) ∨ (m ≠ 1 ∧ actI m p = 0 ∧ actI m 1 = 0 ∧ actI m (p - q) = 0) := by
    intro m p; unfold actI; by_cases h : m = 1 <;> simp [h]
  clear hQ
  rw [a0, a1, a2, a3]
  clear a0 a1 a2 a3 hs
  rcases key m0 p0 with ⟨-, b1, b2, b3⟩ | ⟨-, b1, b2, b3⟩ <;> rcases key m1 p1 with ⟨-, c1, c2, c3⟩ | ⟨-, c1, c2, c3⟩ <;> rcases key m2 p2 with ⟨-, d1, d2, d3⟩ | ⟨-, d1, d2, d3⟩ <;> rcases key m3 p3 with ⟨-, f1, f2, f3⟩ | ⟨-, f1, f2, f3⟩
  all_goals
    rw [b2, c2, d2, f2] at hn
    rw [b1, c1, d1, f1] at hq
    simp only [Int.add_zero, Int.zero_add, Int.reduceAdd] at hn
    rw [hn] at hq ⊢
    rw [b3, c3, d3, f3]
    first | (have := hq (by omega); omega) | omega
def sumK (xs : Nat → Int) : Nat → Int
  | 0 => 0
  | k + 1 => sumK xs k + xs k
def endsK (xs : Nat → Int) : Nat → Bool
  | 0 => false
  | k + 1 => endsK xs k || isEnd (xs k)
def sel4 (a b c d : Int) : Nat → Int
  | 0 => a
  | 1 => b
  | 2 => c
  | _ => d
theorem sum_bd (xs : Nat → Int) (h : ∀ k, -2147483648 ≤ xs k ∧ xs k ≤ 2147483647) (k : Nat) : -2147483648 * (k : Int) ≤ sumK xs k ∧ sumK xs k ≤ 2147483647 * (k : Int) := by
  induction k with
  | zero => simp [sumK]
  | succ k ih => have := h k; simp only [sumK]; omega
set_option maxHeartbeats 4000000 in
set_option maxRecDepth 100000 in
theorem yes (p0 p1 p2 p3 m0 m1 m2 m3 x0 x1 x2 x3 : Int) (w : World) (h : ModesOk m0 m1 m2 m3) (hp0 : -2147483648 ≤ p0 ∧ p0 ≤ 2147483647) (hp1 : -2147483648 ≤ p1 ∧ p1 ≤ 2147483647) (hp2 : -2147483648 ≤ p2 ∧ p2 ≤ 2147483647) (hp3 : -2147483648 ≤ p3 ∧ p3 ≤ 2147483647) (hx0 : -2147483648 ≤ x0 ∧ x0 ≤ 2147483647) (hx1 : -2147483648 ≤ x1 ∧ x1 ≤ 2147483647) (hx2 : -2147483648 ≤ x2 ∧ x2 ≤ 2147483647) (hx3 : -2147483648 ≤ x3 ∧ x3 ≤ 2147483647)
    (e0 : fightI m0 m1 m2 m3 p0 p1 p2 p3 m0 p0 = x0) (e1 : fightI m0 m1 m2 m3 p0 p1 p2 p3 m1 p1 = x1) (e2 : fightI m0 m1 m2 m3 p0 p1 p2 p3 m2 p2 = x2) (e3 : fightI m0 m1 m2 m3 p0 p1 p2 p3 m3 p3 = x3) :
    Calls Try.prog 6 #[.agg #[.int .i32 p0, .int .i32 p1, .int .i32 p2, .int .i32 p3], .agg #[.int .i64 m0, .int .i64 m1, .int .i64 m2, .int .i64 m3]] w fun e w' => e = .returned (.bool true) ∧ Below w.heap.size w w' := by
  have ix0 : ∀ w : World, (Instr.index 52 (.agg #[.int .i64 m0, .int .i64 m1, .int .i64 m2, .int .i64 m3]) (.int .i64 0)).run Try.prog w = .ok (.int .i64 m0) w := fun _ => by kernel_rfl
  have ix1 : ∀ w : World, (Instr.index 52 (.agg #[.int .i64 m0, .int .i64 m1, .int .i64 m2, .int .i64 m3]) (.int .i64 1)).run Try.prog w = .ok (.int .i64 m1) w := fun _ => by kernel_rfl
  have ix2 : ∀ w : World, (Instr.index 52 (.agg #[.int .i64 m0, .int .i64 m1, .int .i64 m2, .int .i64 m3]) (.int .i64 2)).run Try.prog w = .ok (.int .i64 m2) w := fun _ => by kernel_rfl
  have ix3 : ∀ w : World, (Instr.index 52 (.agg #[.int .i64 m0, .int .i64 m1, .int .i64 m2, .int .i64 m3]) (.int .i64 3)).run Try.prog w = .ok (.int .i64 m3) w := fun _ => by kernel_rfl
  have H := Lib.hid h
  have n0 : ∀ m p x : Int, fightI m0 m1 m2 m3 p0 p1 p2 p3 m p = x → m ≠ 1 → x = 0 := fun m p x hx hm => by rw [← hx]; exact if_neg hm
  have z0 := n0 _ _ _ e0; have z1 := n0 _ _ _ e1; have z2 := n0 _ _ _ e2; have z3 := n0 _ _ _ e3
  have Z0 := Lib.hid z0; have Z1 := Lib.hid z1; have Z2 := Lib.hid z2; have Z3 := Lib.hid z3
  have hfin : isEnd x0 = false ∧ isEnd x1 = false ∧ isEnd x2 = false ∧ isEnd x3 = false → _ := fun ⟨g0, g1, g2, g3⟩ => fights m0 m1 m2 m3 p0 p1 p2 p3 x0 x1 x2 x3 e0 e1 e2 e3 g0 g1 g2 g3
  have HF := Lib.hid hfin
  have E0 := Lib.hid e0; have E1 := Lib.hid e1; have E2 := Lib.hid e2; have E3 := Lib.hid e3
  have hxs : sel4 x0 x1 x2 x3 0 = x0 ∧ sel4 x0 x1 x2 x3 1 = x1 ∧ sel4 x0 x1 x2 x3 2 = x2 ∧ sel4 x0 x1 x2 x3 3 = x3 := ⟨rfl, rfl, rfl, rfl⟩
  have hbx : ∀ k, -2147483648 ≤ sel4 x0 x1 x2 x3 k ∧ sel4 x0 x1 x2 x3 k ≤ 2147483647 := fun k => by unfold sel4; split <;> omega
  have HX := Lib.hid hxs; have HB := Lib.hid hbx
  clear h n0 z0 z1 z2 z3 hfin e0 e1 e2 e3 hxs hbx
  generalize sel4 x0 x1 x2 x3 = xs at HX HB
  have K0 : Hid (fightI 1 1 0 0 6 2 0 0 1 6 = 2) := (by decide +kernel : fightI 1 1 0 0 6 2 0 0 1 6 = 2)
  have K1 : Hid (fightI 1 1 0 0 6 2 0 0 1 2 = -2) := (by decide +kernel : fightI 1 1 0 0 6 2 0 0 1 2 = -2)
  have K2 : Hid (fightI 1 1 0 0 6 2 0 0 0 0 = 0) := (by decide +kernel : fightI 1 1 0 0 6 2 0 0 0 0 = 0)
  have K3 : Hid (ModesOk 1 1 0 0) := (by unfold ModesOk; omega : ModesOk 1 1 0 0)
  have q1 : ∀ w : World, (Op.equalIn 10000 22 (.agg #[.int .i32 2, .int .i32 (-2), .int .i32 0, .int .i32 0]) (.agg #[.int .i32 2, .int .i32 (-2), .int .i32 0, .int .i32 0])).run Try.prog w = .ok true w := fun _ => by kernel_rfl
  have q2 : ∀ w : World, (Op.equalIn 10000 22 (.agg #[.int .i32 0, .int .i32 0, .int .i32 0, .int .i32 0]) (.agg #[.int .i32 0, .int .i32 0, .int .i32 0, .int .i32 0])).run Try.prog w = .ok true w := fun _ => by kernel_rfl
  go_enter Try.func6, Try.ntmps6
  go_wp2_with fail
  refine (fight_is _ _ _ _ _ _ _ _ 2 (-2) 0 0 _ K3.out (by omega) (by omega) (by omega) (by omega) K0.out K1.out K2.out K2.out).mono ?_
  rintro e_w1 w1 ⟨rfl, hb⟩
  have zhb := hb.size
  obtain ⟨chb, fhb⟩ := Open.bcell hb
  try (simp at zhb)
  have cp0 : w1.cell? ⟨w.heap.size, 0, none⟩ = some (.int .i32 p0) := by rw [chb _ _ (by first | (simp; done) | omega | (simp; omega))]; go_simp
  have cp1 : w1.cell? ⟨w.heap.size, 1, none⟩ = some (.int .i32 p1) := by rw [chb _ _ (by first | (simp; done) | omega | (simp; omega))]; go_simp
  have cp2 : w1.cell? ⟨w.heap.size, 2, none⟩ = some (.int .i32 p2) := by rw [chb _ _ (by first | (simp; done) | omega | (simp; omega))]; go_simp
  have cp3 : w1.cell? ⟨w.heap.size, 3, none⟩ = some (.int .i32 p3) := by rw [chb _ _ (by first | (simp; done) | omega | (simp; omega))]; go_simp
  have cm0 : w1.cell? ⟨w.heap.size + 1, 0, none⟩ = some (.int .i64 m0) := by rw [chb _ _ (by first | (simp; done) | omega | (simp; omega))]; go_simp
  have cm1 : w1.cell? ⟨w.heap.size + 1, 1, none⟩ = some (.int .i64 m1) := by rw [chb _ _ (by first | (simp; done) | omega | (simp; omega))]; go_simp
  have cm2 : w1.cell? ⟨w.heap.size + 1, 2, none⟩ = some (.int .i64 m2) := by rw [chb _ _ (by first | (simp; done) | omega | (simp; omega))]; go_simp
  have cm3 : w1.cell? ⟨w.heap.size + 1, 3, none⟩ = some (.int .i64 m3) := by rw [chb _ _ (by first | (simp; done) | omega | (simp; omega))]; go_simp
  have B1 : Below w.heap.size w w1 := by repeat (first | exact Below.refl _ _ | refine Below.setCell ?_ (by first | (simp; done) | omega | (simp; omega)) _ | refine below_drewN ?_ _ | refine Below.trans ?_ (Below.mono hb (by first | (simp; done) | omega | (simp; omega))) | refine Below.alloc ?_ (by first | (simp; done) | omega | (simp; omega)) _)
  clear hb chb fhb
  have sw1_0 : w.heap.size < w1.heap.size := by omega
  have sw1_1 : w.heap.size + 1 < w1.heap.size := by omega
  go_wp2_with fail
  refine (fight_is _ _ _ _ _ _ _ _ x0 x1 x2 x3 _ H.out hp0 hp1 hp2 hp3 E0.out E1.out E2.out E3.out).mono ?_
  rintro e2 w2 ⟨rfl, hb⟩
  have zb := hb.size
  try (simp at zb)
  have BA : Below w1.heap.size w1 w2 := by repeat (first | exact Below.refl _ _ | refine Below.setCell ?_ (by first | (simp; done) | omega | (simp; omega)) _ | refine below_drewN ?_ _ | refine Below.trans ?_ (Below.mono hb (by first | (simp; done) | omega | (simp; omega))) | refine Below.alloc ?_ (by first | (simp; done) | omega | (simp; omega)) _)
  have B2 : Below w.heap.size w w2 := by repeat (first | exact Below.refl _ _ | exact B1 | refine Below.setCell ?_ (by first | (simp; done) | omega | (simp; omega)) _ | refine below_drewN ?_ _ | refine Below.trans ?_ (Below.mono BA (by first | (simp; done) | omega | (simp; omega))) | refine Below.alloc ?_ (by first | (simp; done) | omega | (simp; omega)) _)
  replace cm0 := cell_later BA cm0
  replace cm1 := cell_later BA cm1
  replace cm2 := cell_later BA cm2
  replace cm3 := cell_later BA cm3
  have s2 : w.heap.size + 1 < w2.heap.size := by omega
  clear hb BA B1 cp0 cp1 cp2 cp3
  go_wp2
  go_loop [9, 10, 11, 39] (fun s n e i => ∃ k : Nat, k ≤ 4 ∧ i = .int .i64 k ∧ s = .int .i64 (sumK xs k) ∧ n = .int .i64 (fMany m0 m1 m2 m3 k) ∧ e = .bool (endsK xs k)) (fun _ _ _ i => 4 - (intOf i).toNat)
  case atStart => exact ⟨0, by omega, rfl, rfl, rfl, rfl⟩
  case round =>
    obtain ⟨k, hk, rfl, rfl, rfl, rfl⟩ := hrel
    have hS := sum_bd xs HB.out k
    have hN := fMany_bd m0 m1 m2 m3 k
    by_cases h4 : k < 4
    · have S1 : Hid (sumK xs (k + 1) = sumK xs k + xs k) := rfl
      have E1 : Hid (endsK xs (k + 1) = (endsK xs k || isEnd (xs k))) := rfl
      rcases (by omega : k = 0 ∨ k = 1 ∨ k = 2 ∨ k = 3) with rfl | rfl | rfl | rfl
      · have S2 := Lib.hid (S1.out.trans (by rw [HX.out.1])); have E2 := Lib.hid (E1.out.trans (by rw [HX.out.1]))
        clear S1 E1
        have N1 : Hid (fMany m0 m1 m2 m3 1 = fMany m0 m1 m2 m3 0 + actI m0 1) := (by simp [fMany, fSum] : fMany m0 m1 m2 m3 1 = fMany m0 m1 m2 m3 0 + actI m0 1)
        generalize sumK xs 0 = S at *
        generalize fMany m0 m1 m2 m3 0 = N at *
        generalize endsK xs 0 = E at *
        have he : (x0 == 2147483647) = true ∨ ((x0 == 2147483647) = false ∧ (x0 == -2147483648) = true) ∨ ((x0 == 2147483647) = false ∧ (x0 == -2147483648) = false) := by
          cases x0 == 2147483647 <;> cases x0 == -2147483648 <;> simp
        by_cases g : m0 = 1
        · have N2 := Lib.hid (N1.out.trans (by rw [act_yes _ _ g]))
          have t1 : (m0 == 1) = true := by simpa using g
          clear N1 g
          rcases he with t2 | ⟨t2, t3⟩ | ⟨t2, t3⟩ <;> cases E
          all_goals
            go_wp2
            go_round
            case rel => exact ⟨1, by omega, rfl, by rw [S2.out], by rw [N2.out], by rw [E2.out]; unfold isEnd; simp [t2]; try (simpa using t3)⟩
            case measure => simp [intOf]
        · have N2 := Lib.hid (N1.out.trans (by rw [act_no _ _ g, Int.add_zero]))
          have t1 : (m0 == 1) = false := by simpa using g
          obtain rfl : x0 = 0 := Z0.out g
          clear N1 g
          cases E
          all_goals
            go_wp2
            go_round
            case rel => exact ⟨1, by omega, rfl, by rw [S2.out]; simp, by rw [N2.out], by rw [E2.out]; rfl⟩
            case measure => simp [intOf]
      · have S2 := Lib.hid (S1.out.trans (by rw [HX.out.2.1])); have E2 := Lib.hid (E1.out.trans (by rw [HX.out.2.1]))
        clear S1 E1
        have N1 : Hid (fMany m0 m1 m2 m3 2 = fMany m0 m1 m2 m3 1 + actI m1 1) := (by simp [fMany, fSum] : fMany m0 m1 m2 m3 2 = fMany m0 m1 m2 m3 1 + actI m1 1)
        generalize sumK xs 1 = S at *
        generalize fMany m0 m1 m2 m3 1 = N at *
        generalize endsK xs 1 = E at *
        have he : (x1 == 2147483647) = true ∨ ((x1 == 2147483647) = false ∧ (x1 == -2147483648) = true) ∨ ((x1 == 2147483647) = false ∧ (x1 == -2147483648) = false) := by
          cases x1 == 2147483647 <;> cases x1 == -2147483648 <;> simp
        by_cases g : m1 = 1
        · have N2 := Lib.hid (N1.out.trans (by rw [act_yes _ _ g]))
          have t1 : (m1 == 1) = true := by simpa using g
          clear N1 g
          rcases he with t2 | ⟨t2, t3⟩ | ⟨t2, t3⟩ <;> cases E
          all_goals
            go_wp2
            go_round
            case rel => exact ⟨2, by omega, rfl, by rw [S2.out], by rw [N2.out], by rw [E2.out]; unfold isEnd; simp [t2]; try (simpa using t3)⟩
            case measure => simp [intOf]
        · have N2 := Lib.hid (N1.out.trans (by rw [act_no _ _ g, Int.add_zero]))
          have t1 : (m1 == 1) = false := by simpa using g
          obtain rfl : x1 = 0 := Z1.out g
          clear N1 g
          cases E
          all_goals
            go_wp2
            go_round
            case rel => exact ⟨2, by omega, rfl, by rw [S2.out]; simp, by rw [N2.out], by rw [E2.out]; rfl⟩
            case measure => simp [intOf]
      · have S2 := Lib.hid (S1.out.trans (by rw [HX.out.2.2.1])); have E2 := Lib.hid (E1.out.trans (by rw [HX.out.2.2.1]))
        clear S1 E1
        have N1 : Hid (fMany m0 m1 m2 m3 3 = fMany m0 m1 m2 m3 2 + actI m2 1) := (by simp [fMany, fSum] : fMany m0 m1 m2 m3 3 = fMany m0 m1 m2 m3 2 + actI m2 1)
        generalize sumK xs 2 = S at *
        generalize fMany m0 m1 m2 m3 2 = N at *
        generalize endsK xs 2 = E at *
        have he : (x2 == 2147483647) = true ∨ ((x2 == 2147483647) = false ∧ (x2 == -2147483648) = true) ∨ ((x2 == 2147483647) = false ∧ (x2 == -2147483648) = false) := by
          cases x2 == 2147483647 <;> cases x2 == -2147483648 <;> simp
        by_cases g : m2 = 1
        · have N2 := Lib.hid (N1.out.trans (by rw [act_yes _ _ g]))
          have t1 : (m2 == 1) = true := by simpa using g
          clear N1 g
          rcases he with t2 | ⟨t2, t3⟩ | ⟨t2, t3⟩ <;> cases E
          all_goals
            go_wp2
            go_round
            case rel => exact ⟨3, by omega, rfl, by rw [S2.out], by rw [N2.out], by rw [E2.out]; unfold isEnd; simp [t2]; try (simpa using t3)⟩
            case measure => simp [intOf]
        · have N2 := Lib.hid (N1.out.trans (by rw [act_no _ _ g, Int.add_zero]))
          have t1 : (m2 == 1) = false := by simpa using g
          obtain rfl : x2 = 0 := Z2.out g
          clear N1 g
          cases E
          all_goals
            go_wp2
            go_round
            case rel => exact ⟨3, by omega, rfl, by rw [S2.out]; simp, by rw [N2.out], by rw [E2.out]; rfl⟩
            case measure => simp [intOf]
      · have S2 := Lib.hid (S1.out.trans (by rw [HX.out.2.2.2])); have E2 := Lib.hid (E1.out.trans (by rw [HX.out.2.2.2]))
        clear S1 E1
        have N1 : Hid (fMany m0 m1 m2 m3 4 = fMany m0 m1 m2 m3 3 + actI m3 1) := (by simp [fMany, fSum] : fMany m0 m1 m2 m3 4 = fMany m0 m1 m2 m3 3 + actI m3 1)
        generalize sumK xs 3 = S at *
        generalize fMany m0 m1 m2 m3 3 = N at *
        generalize endsK xs 3 = E at *
        have he : (x3 == 2147483647) = true ∨ ((x3 == 2147483647) = false ∧ (x3 == -2147483648) = true) ∨ ((x3 == 2147483647) = false ∧ (x3 == -2147483648) = false) := by
          cases x3 == 2147483647 <;> cases x3 == -2147483648 <;> simp
        by_cases g : m3 = 1
        · have N2 := Lib.hid (N1.out.trans (by rw [act_yes _ _ g]))
          have t1 : (m3 == 1) = true := by simpa using g
          clear N1 g
          rcases he with t2 | ⟨t2, t3⟩ | ⟨t2, t3⟩ <;> cases E
          all_goals
            go_wp2
            go_round
            case rel => exact ⟨4, by omega, rfl, by rw [S2.out], by rw [N2.out], by rw [E2.out]; unfold isEnd; simp [t2]; try (simpa using t3)⟩
            case measure => simp [intOf]
        · have N2 := Lib.hid (N1.out.trans (by rw [act_no _ _ g, Int.add_zero]))
          have t1 : (m3 == 1) = false := by simpa using g
          obtain rfl : x3 = 0 := Z3.out g
          clear N1 g
          cases E
          all_goals
            go_wp2
            go_round
            case rel => exact ⟨4, by omega, rfl, by rw [S2.out]; simp, by rw [N2.out], by rw [E2.out]; rfl⟩
            case measure => simp [intOf]
    · obtain rfl : k = 4 := by omega
      have F : endsK xs 4 = true ∨ (endsK xs 4 = false ∧ ((fMany m0 m1 m2 m3 4 = 0 ∧ sumK xs 4 = 0) ∨ (fMany m0 m1 m2 m3 4 = 1 ∧ sumK xs 4 = 0) ∨ (2 ≤ fMany m0 m1 m2 m3 4 ∧ -(fMany m0 m1 m2 m3 4) < sumK xs 4 ∧ sumK xs 4 < fMany m0 m1 m2 m3 4))) := by
        cases hE : endsK xs 4
        · simp only [endsK, Bool.or_eq_false_iff, Bool.false_or] at hE
          obtain ⟨⟨⟨g0, g1⟩, g2⟩, g3⟩ := hE
          obtain ⟨a0, a1, a2, a3⟩ := HX.out
          rw [a0] at g0; rw [a1] at g1; rw [a2] at g2; rw [a3] at g3
          have := HF.out ⟨g0, g1, g2, g3⟩
          refine .inr ⟨rfl, ?_⟩
          have hs : sumK xs 4 = x0 + x1 + x2 + x3 := by simp only [sumK]; rw [a0, a1, a2, a3]; omega
          rw [hs]; exact this
        · exact .inl rfl
      generalize sumK xs 4 = S at *
      generalize fMany m0 m1 m2 m3 4 = N at *
      generalize endsK xs 4 = E at *
      clear HF HX HB
      rcases F with rfl | ⟨rfl, ⟨rfl, rfl⟩ | ⟨rfl, rfl⟩ | ⟨f1, f2, f3⟩⟩
      · go_wp2
        go_ret
        exact ⟨ret_bool (by first | rfl | (simp; done)), by repeat (first | exact Below.refl _ _ | exact B2 | refine Below.setCell ?_ (by first | (simp; done) | omega | (simp; omega)) _ | refine below_drewN ?_ _ | refine Below.alloc ?_ (by first | (simp; done) | omega | (simp; omega)) _)⟩
      · go_wp2
        go_ret
        exact ⟨ret_bool (by first | rfl | (simp; done)), by repeat (first | exact Below.refl _ _ | exact B2 | refine Below.setCell ?_ (by first | (simp; done) | omega | (simp; omega)) _ | refine below_drewN ?_ _ | refine Below.alloc ?_ (by first | (simp; done) | omega | (simp; omega)) _)⟩
      · go_wp2
        go_ret
        exact ⟨ret_bool (by first | rfl | (simp; done)), by repeat (first | exact Below.refl _ _ | exact B2 | refine Below.setCell ?_ (by first | (simp; done) | omega | (simp; omega)) _ | refine below_drewN ?_ _ | refine Below.alloc ?_ (by first | (simp; done) | omega | (simp; omega)) _)⟩
      · rcases (by omega : S < 0 ∨ 0 < S ∨ S = 0) with g | g | rfl
        all_goals
          go_wp2
          go_ret
          exact ⟨ret_bool (by first | rfl | (simp; done)), by repeat (first | exact Below.refl _ _ | exact B2 | refine Below.setCell ?_ (by first | (simp; done) | omega | (simp; omega)) _ | refine below_drewN ?_ _ | refine Below.alloc ?_ (by first | (simp; done) | omega | (simp; omega)) _)⟩
set_option maxHeartbeats 4000000 in
set_option maxRecDepth 100000 in
theorem no (p0 p1 p2 p3 m0 m1 m2 m3 : Int) (w : World) (h : ¬ ModesOk m0 m1 m2 m3) (hp0 : -2147483648 ≤ p0 ∧ p0 ≤ 2147483647) (hp1 : -2147483648 ≤ p1 ∧ p1 ≤ 2147483647) (hp2 : -2147483648 ≤ p2 ∧ p2 ≤ 2147483647) (hp3 : -2147483648 ≤ p3 ∧ p3 ≤ 2147483647) :
    Calls Try.prog 6 #[.agg #[.int .i32 p0, .int .i32 p1, .int .i32 p2, .int .i32 p3], .agg #[.int .i64 m0, .int .i64 m1, .int .i64 m2, .int .i64 m3]] w fun e w' => e = .returned (.bool true) ∧ Below w.heap.size w w' := by
  have H := Lib.hid h
  have K0 : Hid (fightI 1 1 0 0 6 2 0 0 1 6 = 2) := (by decide +kernel : fightI 1 1 0 0 6 2 0 0 1 6 = 2)
  have K1 : Hid (fightI 1 1 0 0 6 2 0 0 1 2 = -2) := (by decide +kernel : fightI 1 1 0 0 6 2 0 0 1 2 = -2)
  have K2 : Hid (fightI 1 1 0 0 6 2 0 0 0 0 = 0) := (by decide +kernel : fightI 1 1 0 0 6 2 0 0 0 0 = 0)
  have K3 : Hid (ModesOk 1 1 0 0) := (by unfold ModesOk; omega : ModesOk 1 1 0 0)
  clear h
  have q1 : ∀ w : World, (Op.equalIn 10000 22 (.agg #[.int .i32 2, .int .i32 (-2), .int .i32 0, .int .i32 0]) (.agg #[.int .i32 2, .int .i32 (-2), .int .i32 0, .int .i32 0])).run Try.prog w = .ok true w := fun _ => by kernel_rfl
  have q2 : ∀ w : World, (Op.equalIn 10000 22 (.agg #[.int .i32 0, .int .i32 0, .int .i32 0, .int .i32 0]) (.agg #[.int .i32 0, .int .i32 0, .int .i32 0, .int .i32 0])).run Try.prog w = .ok true w := fun _ => by kernel_rfl
  go_enter Try.func6, Try.ntmps6
  go_wp2_with fail
  refine (fight_is _ _ _ _ _ _ _ _ 2 (-2) 0 0 _ K3.out (by omega) (by omega) (by omega) (by omega) K0.out K1.out K2.out K2.out).mono ?_
  rintro e_w1 w1 ⟨rfl, hb⟩
  have zhb := hb.size
  obtain ⟨chb, fhb⟩ := Open.bcell hb
  try (simp at zhb)
  have cp0 : w1.cell? ⟨w.heap.size, 0, none⟩ = some (.int .i32 p0) := by rw [chb _ _ (by first | (simp; done) | omega | (simp; omega))]; go_simp
  have cp1 : w1.cell? ⟨w.heap.size, 1, none⟩ = some (.int .i32 p1) := by rw [chb _ _ (by first | (simp; done) | omega | (simp; omega))]; go_simp
  have cp2 : w1.cell? ⟨w.heap.size, 2, none⟩ = some (.int .i32 p2) := by rw [chb _ _ (by first | (simp; done) | omega | (simp; omega))]; go_simp
  have cp3 : w1.cell? ⟨w.heap.size, 3, none⟩ = some (.int .i32 p3) := by rw [chb _ _ (by first | (simp; done) | omega | (simp; omega))]; go_simp
  have cm0 : w1.cell? ⟨w.heap.size + 1, 0, none⟩ = some (.int .i64 m0) := by rw [chb _ _ (by first | (simp; done) | omega | (simp; omega))]; go_simp
  have cm1 : w1.cell? ⟨w.heap.size + 1, 1, none⟩ = some (.int .i64 m1) := by rw [chb _ _ (by first | (simp; done) | omega | (simp; omega))]; go_simp
  have cm2 : w1.cell? ⟨w.heap.size + 1, 2, none⟩ = some (.int .i64 m2) := by rw [chb _ _ (by first | (simp; done) | omega | (simp; omega))]; go_simp
  have cm3 : w1.cell? ⟨w.heap.size + 1, 3, none⟩ = some (.int .i64 m3) := by rw [chb _ _ (by first | (simp; done) | omega | (simp; omega))]; go_simp
  have B1 : Below w.heap.size w w1 := by repeat (first | exact Below.refl _ _ | refine Below.setCell ?_ (by first | (simp; done) | omega | (simp; omega)) _ | refine below_drewN ?_ _ | refine Below.trans ?_ (Below.mono hb (by first | (simp; done) | omega | (simp; omega))) | refine Below.alloc ?_ (by first | (simp; done) | omega | (simp; omega)) _)
  clear hb chb fhb
  have sw1_0 : w.heap.size < w1.heap.size := by omega
  have sw1_1 : w.heap.size + 1 < w1.heap.size := by omega
  go_wp2_with fail
  refine (fight_no _ _ _ _ _ _ _ _ _ H.out).mono ?_
  rintro e2 w2 ⟨rfl, hb⟩
  have zb := hb.size
  try (simp at zb)
  have BA : Below w1.heap.size w1 w2 := by repeat (first | exact Below.refl _ _ | refine Below.setCell ?_ (by first | (simp; done) | omega | (simp; omega)) _ | refine below_drewN ?_ _ | refine Below.trans ?_ (Below.mono hb (by first | (simp; done) | omega | (simp; omega))) | refine Below.alloc ?_ (by first | (simp; done) | omega | (simp; omega)) _)
  have B2 : Below w.heap.size w w2 := by repeat (first | exact Below.refl _ _ | exact B1 | refine Below.setCell ?_ (by first | (simp; done) | omega | (simp; omega)) _ | refine below_drewN ?_ _ | refine Below.trans ?_ (Below.mono BA (by first | (simp; done) | omega | (simp; omega))) | refine Below.alloc ?_ (by first | (simp; done) | omega | (simp; omega)) _)
  clear hb BA B1 cp0 cp1 cp2 cp3 cm0 cm1 cm2 cm3
  go_wp2
  go_ret
  refine ⟨ret_bool (by first | rfl | (simp; done)), ?_⟩
  repeat (first | exact Below.refl _ _ | exact B2 | refine Below.setCell ?_ (by first | (simp; done) | omega | (simp; omega)) _ | refine below_drewN ?_ _ | refine Below.alloc ?_ (by first | (simp; done) | omega | (simp; omega)) _)
theorem law (p0 p1 p2 p3 m0 m1 m2 m3 : Int) (w : World) (hp0 : -2147483648 ≤ p0 ∧ p0 ≤ 2147483647) (hp1 : -2147483648 ≤ p1 ∧ p1 ≤ 2147483647) (hp2 : -2147483648 ≤ p2 ∧ p2 ≤ 2147483647) (hp3 : -2147483648 ≤ p3 ∧ p3 ≤ 2147483647) (hm0 : -9223372036854775808 ≤ m0 ∧ m0 ≤ 9223372036854775807) (hm1 : -9223372036854775808 ≤ m1 ∧ m1 ≤ 9223372036854775807) (hm2 : -9223372036854775808 ≤ m2 ∧ m2 ≤ 9223372036854775807) (hm3 : -9223372036854775808 ≤ m3 ∧ m3 ≤ 9223372036854775807) :
    Calls Try.prog 6 #[.agg #[.int .i32 p0, .int .i32 p1, .int .i32 p2, .int .i32 p3], .agg #[.int .i64 m0, .int .i64 m1, .int .i64 m2, .int .i64 m3]] w fun e w' => e = .returned (.bool true) ∧ Below w.heap.size w w' := by
  by_cases h : ModesOk m0 m1 m2 m3
  · have hb : ∀ m p, -2147483648 ≤ fightI m0 m1 m2 m3 p0 p1 p2 p3 m p ∧ fightI m0 m1 m2 m3 p0 p1 p2 p3 m p ≤ 2147483647 := fun m p => by
      unfold fightI; split
      · exact sat32_bd _
      · omega
    exact yes p0 p1 p2 p3 m0 m1 m2 m3 _ _ _ _ w h hp0 hp1 hp2 hp3 (hb _ _) (hb _ _) (hb _ _) (hb _ _) rfl rfl rfl rfl
  · exact no p0 p1 p2 p3 m0 m1 m2 m3 w h hp0 hp1 hp2 hp3
set_option maxRecDepth 100000 in
theorem lifted (os : Os) (started : os.Started) (H : Type) (enc : TypeId × Value → H) :
    ReturnsInHanded {} Try.checked os 6 .any (Rows.ramFightsSpec.pre6 enc Try.prog Try.f6 Rows.ramFightsRow.domain false) (Rows.ramFightsSpec.post enc Try.prog Try.f6 false true false false) := by
  refine returnsInHanded_of_change (C := Try.checked) own started (by kernel_rfl) Try.func6
    (ChangeSpec.witness6 (enc := enc) (C := Try.checked) false ⟨#[], #[.agg #[.int .i32 0, .int .i32 0, .int .i32 0, .int .i32 0], .agg #[.int .i64 0, .int .i64 0, .int .i64 0, .int .i64 0]], []⟩ 8 (by kernel_rfl) (by kernel_rfl) (by kernel_rfl) (by kernel_rfl)) ?_
  intro W base args ds gs before hval0 hW hcnd _
  have hval : ∀ (j : Nat) t v, Try.f6.params[j]? = some t → args[j]? = some v → Value.okWide Try.prog W .any base t v := hval0
  have hW' := hW
  obtain ⟨p, q, hA0, hV, rfl, hfz, hnd⟩ := hW
  have hA : DataW.TrodAll enc Try.prog W 0 (fun _ => true) true Try.f6.params.toList args.toList ds p := hA0
  rw [Try.params6] at hA hval
  obtain ⟨v0, vs0, d0, ds0, p0, q0, hargs, rfl, rfl, h0, r0⟩ := trodAll_cons hA
  obtain ⟨v1, vs1, d1, ds1, p1, q1, rfl, rfl, rfl, h1, r1⟩ := trodAll_cons r0
  obtain ⟨rfl, rfl, rfl⟩ := trodAll_nil r1
  obtain rfl : args = #[v0, v1] := by cases args; simp_all
  obtain ⟨rfl, rfl⟩ := trodVars_none hV
  have k0 := h0
  have lt0 : ∀ x ∈ p0, x.block < W.heap.size := by obtain ⟨m, hm⟩ := k0; exact DataW.trod_lt m _ _ _ hm
  have k1 := h1
  have lt1 : ∀ x ∈ p1, x.block < W.heap.size := by obtain ⟨m, hm⟩ := k1; exact DataW.trod_lt m _ _ _ hm
  obtain ⟨cs0, rfl, lf0_0⟩ := open_flat 12 [21, 21, 21, 21] (by kernel_rfl) (by kernel_rfl) (by kernel_rfl) (hval 0 22 v0 rfl rfl) h0
  obtain ⟨c0_0, r0_0, rfl, y0_0, lf0_1⟩ := leafs_cons lf0_0
  obtain ⟨a0_0, rfl, w0_0⟩ := leaf_int Try.underlying21 y0_0
  obtain ⟨c0_1, r0_1, rfl, y0_1, lf0_2⟩ := leafs_cons lf0_1
  obtain ⟨a0_1, rfl, w0_1⟩ := leaf_int Try.underlying21 y0_1
  obtain ⟨c0_2, r0_2, rfl, y0_2, lf0_3⟩ := leafs_cons lf0_2
  obtain ⟨a0_2, rfl, w0_2⟩ := leaf_int Try.underlying21 y0_2
  obtain ⟨c0_3, r0_3, rfl, y0_3, lf0_4⟩ := leafs_cons lf0_3
  obtain ⟨a0_3, rfl, w0_3⟩ := leaf_int Try.underlying21 y0_3
  obtain rfl := leafs_nil lf0_4
  obtain ⟨cs1, rfl, lf1_0⟩ := open_flat 12 [3, 3, 3, 3] (by kernel_rfl) (by kernel_rfl) (by kernel_rfl) (hval 1 52 v1 rfl rfl) h1
  obtain ⟨c1_0, r1_0, rfl, y1_0, lf1_1⟩ := leafs_cons lf1_0
  obtain ⟨a1_0, rfl, w1_0⟩ := leaf_int Try.underlying3 y1_0
  obtain ⟨c1_1, r1_1, rfl, y1_1, lf1_2⟩ := leafs_cons lf1_1
  obtain ⟨a1_1, rfl, w1_1⟩ := leaf_int Try.underlying3 y1_1
  obtain ⟨c1_2, r1_2, rfl, y1_2, lf1_3⟩ := leafs_cons lf1_2
  obtain ⟨a1_2, rfl, w1_2⟩ := leaf_int Try.underlying3 y1_2
  obtain ⟨c1_3, r1_3, rfl, y1_3, lf1_4⟩ := leafs_cons lf1_3
  obtain ⟨a1_3, rfl, w1_3⟩ := leaf_int Try.underlying3 y1_3
  obtain rfl := leafs_nil lf1_4
  clear hA0 hval0
  refine (law a0_0 a0_1 a0_2 a0_3 a1_0 a1_1 a1_2 a1_3 W (bounds_i32 w0_0) (bounds_i32 w0_1) (bounds_i32 w0_2) (bounds_i32 w0_3) (bounds_i64 w1_0) (bounds_i64 w1_1) (bounds_i64 w1_2) (bounds_i64 w1_3)).mono fun e W' ⟨he, bel⟩ => ?_
  subst he
  exact ⟨_, rfl, _, _, _, [], _, [], hW', trodAll_mk1 (shut_bool Try.underlying4 _), (trodAll_cons_mk (Below.trod laidOut (by kernel_rfl) (of_decide_eq_true (by kernel_rfl)) k0 bel lt0) (trodAll_cons_mk (Below.trod laidOut (by kernel_rfl) (of_decide_eq_true (by kernel_rfl)) k1 bel lt1) trodAll_mk0)), rfl, bel.frame _, fun h => by cases h⟩
theorem over : Rows.ramFightsRow.holds Try.pinned (OpenSpec.ofChange Rows.ramFightsSpec) :=
  OpenClaim.holds_of_wide 6 Try.f6 rfl rfl rfl rfl rfl rfl rfl ⟨rfl, rfl, rfl, rfl, rfl⟩ rfl rfl rfl rfl rfl (by kernel_rfl) Try.func6 (by kernel_rfl)
    (of_decide_eq_true (by kernel_rfl)) (by unfold Func.isWrapper; first | (rw [if_pos (by decide +kernel)]; kernel_rfl) | (rw [if_neg (by decide +kernel)]; exact ⟨rfl, rfl⟩))
    (fun os started H enc _ => lifted os started H enc)
theorem proved : Rows.RamFightsSaid := over
#print axioms proved

end Go.Proofs.Ytacelddnklnhpaa.ramFights
