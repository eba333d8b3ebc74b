/- RedStays: whatever the lanes, the oil and the faults are, the law answers true and leaves memory as it was. -/
import Derived.Test.YtfifckcjadbiiaaRedFacts
namespace Go.Proofs.Ytfifckcjadbiiaa.redStays
open Go.ChangeShapes Go.WideShapes Go.ChangeAt Go.RowKit Go.Proofs.Ytfifckcjadbiiaa Go.Proofs.Ytfifckcjadbiiaa.Open
set_option linter.unusedVariables false
/-- what lies in memory before the loop -/
def SAt (w : World) (bx bz : Nat) (X : Team) (r0 r1 r2 r3 n a : Int) (L : Bool) : Prop :=
  (w.cell? ⟨bx, 0, none⟩ = some (.int .i64 (X 0).1) ∧ w.cell? ⟨bx, 1, none⟩ = some (.bool (X 0).2.1) ∧ w.cell? ⟨bx, 2, none⟩ = some (.int .i64 (X 0).2.2) ∧
    w.cell? ⟨bx, 3, none⟩ = some (.int .i64 (X 1).1) ∧ w.cell? ⟨bx, 4, none⟩ = some (.bool (X 1).2.1) ∧ w.cell? ⟨bx, 5, none⟩ = some (.int .i64 (X 1).2.2) ∧
    w.cell? ⟨bx, 6, none⟩ = some (.int .i64 (X 2).1) ∧ w.cell? ⟨bx, 7, none⟩ = some (.bool (X 2).2.1) ∧ w.cell? ⟨bx, 8, none⟩ = some (.int .i64 (X 2).2.2) ∧
    w.cell? ⟨bx, 9, none⟩ = some (.int .i64 (X 3).1) ∧ w.cell? ⟨bx, 10, none⟩ = some (.bool (X 3).2.1) ∧ w.cell? ⟨bx, 11, none⟩ = some (.int .i64 (X 3).2.2)) ∧
  (w.cell? ⟨bz, 0, none⟩ = some (.int .i64 (X 0).1) ∧ w.cell? ⟨bz, 1, none⟩ = some (.bool (X 0).2.1) ∧ w.cell? ⟨bz, 2, none⟩ = some (.int .i64 r0) ∧
    w.cell? ⟨bz, 3, none⟩ = some (.int .i64 (X 1).1) ∧ w.cell? ⟨bz, 4, none⟩ = some (.bool (X 1).2.1) ∧ w.cell? ⟨bz, 5, none⟩ = some (.int .i64 r1) ∧
    w.cell? ⟨bz, 6, none⟩ = some (.int .i64 (X 2).1) ∧ w.cell? ⟨bz, 7, none⟩ = some (.bool (X 2).2.1) ∧ w.cell? ⟨bz, 8, none⟩ = some (.int .i64 r2) ∧
    w.cell? ⟨bz, 9, none⟩ = some (.int .i64 (X 3).1) ∧ w.cell? ⟨bz, 10, none⟩ = some (.bool (X 3).2.1) ∧ w.cell? ⟨bz, 11, none⟩ = some (.int .i64 r3)) ∧
  (w.cell? ⟨bx + 1, 0, none⟩ = some (.int .i64 n) ∧ w.cell? ⟨bx + 1, 1, none⟩ = some (.int .i64 a) ∧ w.cell? ⟨bx + 1, 2, none⟩ = some (.bool L)) ∧
  w.cell? ⟨bz + 1, 0, none⟩ = some (.int .i64 n) ∧ w.cell? ⟨bz + 1, 1, none⟩ = some (.int .i64 a) ∧ w.cell? ⟨bz + 1, 2, none⟩ = some (.bool L)
def SRel (W0 : World) (i : Value) (wr : World) : Prop := ∃ k m : Nat, k ≤ 4 ∧ i = .int .i64 k ∧ wr = W0.drewN m
set_option maxHeartbeats 8000000 in
set_option maxRecDepth 100000 in
theorem yes (T : Team) (o0 o1 o2 o3 a0 a1 a2 a3 : Bool) (w : World) (hok : ∀ j, j < 4 → OkS (T j)) :
    Calls Try.prog 7 #[teamV T, .agg #[.bool o0, .bool o1, .bool o2, .bool o3], .agg #[.bool a0, .bool a1, .bool a2, .bool a3]] w fun e w' => e = .returned (.bool true) ∧ Below w.heap.size w w' := by
  have HOK := Lib.hid hok
  obtain ⟨X0, hX0⟩ : ∃ X0, planT (fun _ => (0, false, 0)) (sel4 false false false false) (sel4 false false false false) = X0 := ⟨_, rfl⟩
  have K0 : Hid (planT (fun _ => (0, false, 0)) (sel4 false false false false) (sel4 false false false false) = X0 ∧ ((planU (fun _ => (0, false, 0)) (sel4 false false false false) (sel4 false false false false)).length : Int) = 0 ∧ actI (planC (fun _ => (0, false, 0)) (sel4 false false false false) (sel4 false false false false)) 4 = 0 ∧ ((0 : Int) == 0) = true) := (⟨hX0, rfl, rfl, rfl⟩ : _ ∧ _ ∧ _ ∧ _)
  obtain ⟨X, hX⟩ : ∃ X, planT T (sel4 a0 a1 a2 a3) (sel4 o0 o1 o2 o3) = X := ⟨_, rfl⟩
  obtain ⟨n, hn⟩ : ∃ n : Int, ((planU T (sel4 a0 a1 a2 a3) (sel4 o0 o1 o2 o3)).length : Int) = n := ⟨_, rfl⟩
  obtain ⟨a, ha⟩ : ∃ a, actI (planC T (sel4 a0 a1 a2 a3) (sel4 o0 o1 o2 o3)) 4 = a := ⟨_, rfl⟩
  obtain ⟨L, hL⟩ : ∃ L, (n == 0) = L := ⟨_, rfl⟩
  have K1 : Hid (planT T (sel4 a0 a1 a2 a3) (sel4 o0 o1 o2 o3) = X ∧ ((planU T (sel4 a0 a1 a2 a3) (sel4 o0 o1 o2 o3)).length : Int) = n ∧ actI (planC T (sel4 a0 a1 a2 a3) (sel4 o0 o1 o2 o3)) 4 = a ∧ (n == 0) = L) := (⟨hX, hn, ha, hL⟩ : _ ∧ _ ∧ _ ∧ _)
  have hag := plan_again T (sel4 a0 a1 a2 a3) (sel4 o0 o1 o2 o3) hok
  have hxok : ∀ j, j < 4 → OkS (X j) := fun j hj => by rw [← hX]; exact (planT_lane T _ _ hok j hj).2.2.1
  rw [hX, ha] at hag
  obtain ⟨g1, g2, g3⟩ := hag
  have g1' : ((planU X (fun _ => false) (sel4 o0 o1 o2 o3)).length : Int) = n := by rw [g1, hn]
  obtain ⟨r0, e0⟩ : ∃ r, min 10000 ((X 0).2.2 + 1) = r := ⟨_, rfl⟩
  obtain ⟨r1, e1⟩ : ∃ r, min 10000 ((X 1).2.2 + 1) = r := ⟨_, rfl⟩
  obtain ⟨r2, e2⟩ : ∃ r, min 10000 ((X 2).2.2 + 1) = r := ⟨_, rfl⟩
  obtain ⟨r3, e3⟩ : ∃ r, min 10000 ((X 3).2.2 + 1) = r := ⟨_, rfl⟩
  have K2 := Lib.hid g1'; have K3 := Lib.hid g2; have K4 := Lib.hid g3; have KX := Lib.hid hxok; have KL := Lib.hid hL
  have E0 := Lib.hid e0; have E1 := Lib.hid e1; have E2 := Lib.hid e2; have E3 := Lib.hid e3
  have EE : Hid (min 10000 ((X 0).2.2 + 1) = r0 ∧ min 10000 ((X 1).2.2 + 1) = r1 ∧ min 10000 ((X 2).2.2 + 1) = r2 ∧ min 10000 ((X 3).2.2 + 1) = r3) := (⟨e0, e1, e2, e3⟩ : _ ∧ _ ∧ _ ∧ _)
  clear hok hX0 hX hn ha hL hxok g1 g2 g3 g1' e0 e1 e2 e3
  go_enter Try.func7, Try.ntmps7
  go_wp2_with fail
  refine (plan_is (fun _ => (0, false, 0)) false false false false false false false false _ zero_ok _ _ _ _ K0.out).mono ?_
  rintro e1 w1 ⟨rfl, hb1⟩
  have z1 := hb1.size
  simp at z1
  have B1 : Below w.heap.size w w1 := by repeat (first | with_reducible exact Below.refl _ _ | ((with_reducible refine Below.setCell ?_ ?_ _); rotate_left; (· first | (simp; done) | omega | (simp; omega))) | with_reducible refine below_drewN ?_ _ | with_reducible refine Below.drew ?_ | ((with_reducible refine Below.trans ?_ (Below.mono hb1 ?_)); rotate_left; (· first | (simp; done) | omega | (simp; omega))) | ((with_reducible refine Below.alloc ?_ ?_ _); rotate_left; (· first | (simp; done) | omega | (simp; omega))) | exact Below.refl _ _ | refine Below.setCell ?_ (by first | (simp; done) | omega | (simp; omega)) _ | refine below_drewN ?_ _ | refine Below.drew ?_ | refine Below.trans ?_ (Below.mono hb1 (by first | (simp; done) | omega | (simp; omega))) | refine Below.alloc ?_ (by first | (simp; done) | omega | (simp; omega)) _)
  obtain ⟨chb, fhb⟩ := Open.bcell hb1
  have t0 : w1.cell? ⟨w.heap.size, 0, none⟩ = some (.int .i64 (T 0).1) := by rw [chb _ _ (by first | (simp; done) | omega | (simp; omega))]; go_simp
  have t1 : w1.cell? ⟨w.heap.size, 1, none⟩ = some (.bool (T 0).2.1) := by rw [chb _ _ (by first | (simp; done) | omega | (simp; omega))]; go_simp
  have t2 : w1.cell? ⟨w.heap.size, 2, none⟩ = some (.int .i64 (T 0).2.2) := by rw [chb _ _ (by first | (simp; done) | omega | (simp; omega))]; go_simp
  have t3 : w1.cell? ⟨w.heap.size, 3, none⟩ = some (.int .i64 (T 1).1) := by rw [chb _ _ (by first | (simp; done) | omega | (simp; omega))]; go_simp
  have t4 : w1.cell? ⟨w.heap.size, 4, none⟩ = some (.bool (T 1).2.1) := by rw [chb _ _ (by first | (simp; done) | omega | (simp; omega))]; go_simp
  have t5 : w1.cell? ⟨w.heap.size, 5, none⟩ = some (.int .i64 (T 1).2.2) := by rw [chb _ _ (by first | (simp; done) | omega | (simp; omega))]; go_simp
  have t6 : w1.cell? ⟨w.heap.size, 6, none⟩ = some (.int .i64 (T 2).1) := by rw [chb _ _ (by first | (simp; done) | omega | (simp; omega))]; go_simp
  have t7 : w1.cell? ⟨w.heap.size, 7, none⟩ = some (.bool (T 2).2.1) := by rw [chb _ _ (by first | (simp; done) | omega | (simp; omega))]; go_simp
  have t8 : w1.cell? ⟨w.heap.size, 8, none⟩ = some (.int .i64 (T 2).2.2) := by rw [chb _ _ (by first | (simp; done) | omega | (simp; omega))]; go_simp
  have t9 : w1.cell? ⟨w.heap.size, 9, none⟩ = some (.int .i64 (T 3).1) := by rw [chb _ _ (by first | (simp; done) | omega | (simp; omega))]; go_simp
  have t10 : w1.cell? ⟨w.heap.size, 10, none⟩ = some (.bool (T 3).2.1) := by rw [chb _ _ (by first | (simp; done) | omega | (simp; omega))]; go_simp
  have t11 : w1.cell? ⟨w.heap.size, 11, none⟩ = some (.int .i64 (T 3).2.2) := by rw [chb _ _ (by first | (simp; done) | omega | (simp; omega))]; go_simp
  have p0 : w1.cell? ⟨w.heap.size + 1, 0, none⟩ = some (.bool o0) := by rw [chb _ _ (by first | (simp; done) | omega | (simp; omega))]; go_simp
  have p1 : w1.cell? ⟨w.heap.size + 1, 1, none⟩ = some (.bool o1) := by rw [chb _ _ (by first | (simp; done) | omega | (simp; omega))]; go_simp
  have p2 : w1.cell? ⟨w.heap.size + 1, 2, none⟩ = some (.bool o2) := by rw [chb _ _ (by first | (simp; done) | omega | (simp; omega))]; go_simp
  have p3 : w1.cell? ⟨w.heap.size + 1, 3, none⟩ = some (.bool o3) := by rw [chb _ _ (by first | (simp; done) | omega | (simp; omega))]; go_simp
  have q0 : w1.cell? ⟨w.heap.size + 1 + 1, 0, none⟩ = some (.bool a0) := by rw [chb _ _ (by first | (simp; done) | omega | (simp; omega))]; go_simp
  have q1 : w1.cell? ⟨w.heap.size + 1 + 1, 1, none⟩ = some (.bool a1) := by rw [chb _ _ (by first | (simp; done) | omega | (simp; omega))]; go_simp
  have q2 : w1.cell? ⟨w.heap.size + 1 + 1, 2, none⟩ = some (.bool a2) := by rw [chb _ _ (by first | (simp; done) | omega | (simp; omega))]; go_simp
  have q3 : w1.cell? ⟨w.heap.size + 1 + 1, 3, none⟩ = some (.bool a3) := by rw [chb _ _ (by first | (simp; done) | omega | (simp; omega))]; go_simp
  clear hb1 chb fhb
  have sw1_0_0 : w.heap.size < w1.heap.size := by omega
  have sw1_1_0 : w.heap.size + 1 < w1.heap.size := by omega
  have sw1_2_0 : w.heap.size + 1 + 1 < w1.heap.size := by omega
  go_wp2_with fail
  refine (plan_is T _ _ _ _ _ _ _ _ _ HOK.out _ _ _ _ K1.out).mono ?_
  rintro e2 w2 ⟨rfl, hb2⟩
  have z2 := hb2.size
  simp at z2
  have B2 : Below w.heap.size w w2 := by repeat (first | with_reducible exact Below.refl _ _ | with_reducible exact B1 | ((with_reducible refine Below.setCell ?_ ?_ _); rotate_left; (· first | (simp; done) | omega | (simp; omega))) | with_reducible refine below_drewN ?_ _ | with_reducible refine Below.drew ?_ | ((with_reducible refine Below.trans ?_ (Below.mono hb2 ?_)); rotate_left; (· first | (simp; done) | omega | (simp; omega))) | ((with_reducible refine Below.alloc ?_ ?_ _); rotate_left; (· first | (simp; done) | omega | (simp; omega))) | exact Below.refl _ _ | exact B1 | refine Below.setCell ?_ (by first | (simp; done) | omega | (simp; omega)) _ | refine below_drewN ?_ _ | refine Below.drew ?_ | refine Below.trans ?_ (Below.mono hb2 (by first | (simp; done) | omega | (simp; omega))) | refine Below.alloc ?_ (by first | (simp; done) | omega | (simp; omega)) _)
  have p0' : w2.cell? ⟨w.heap.size + 1, 0, none⟩ = some (.bool o0) := cell_later hb2 (by go_simp)
  have p1' : w2.cell? ⟨w.heap.size + 1, 1, none⟩ = some (.bool o1) := cell_later hb2 (by go_simp)
  have p2' : w2.cell? ⟨w.heap.size + 1, 2, none⟩ = some (.bool o2) := cell_later hb2 (by go_simp)
  have p3' : w2.cell? ⟨w.heap.size + 1, 3, none⟩ = some (.bool o3) := cell_later hb2 (by go_simp)
  clear hb2 B1 t0 t1 t2 t3 t4 t5 t6 t7 t8 t9 t10 t11 p0 p1 p2 p3 q0 q1 q2 q3
  have s20 : w.heap.size + 1 < w2.heap.size := by omega
  have s21 : w.heap.size + 1 < w2.heap.size + 1 := by omega
  go_wp2_with fail
  refine (plan_two X _ _ _ _ _ KX.out n a L r0 r1 r2 r3 K2.out K3.out KL.out EE.out K4.out).mono ?_
  rintro e3 w3 ⟨rfl, hb3⟩
  have z3 := hb3.size
  simp at z3
  have B3 : Below w.heap.size w w3 := by repeat (first | with_reducible exact Below.refl _ _ | with_reducible exact B2 | ((with_reducible refine Below.setCell ?_ ?_ _); rotate_left; (· first | (simp; done) | omega | (simp; omega))) | with_reducible refine below_drewN ?_ _ | with_reducible refine Below.drew ?_ | ((with_reducible refine Below.trans ?_ (Below.mono hb3 ?_)); rotate_left; (· first | (simp; done) | omega | (simp; omega))) | ((with_reducible refine Below.alloc ?_ ?_ _); rotate_left; (· first | (simp; done) | omega | (simp; omega))) | exact Below.refl _ _ | exact B2 | refine Below.setCell ?_ (by first | (simp; done) | omega | (simp; omega)) _ | refine below_drewN ?_ _ | refine Below.drew ?_ | refine Below.trans ?_ (Below.mono hb3 (by first | (simp; done) | omega | (simp; omega))) | refine Below.alloc ?_ (by first | (simp; done) | omega | (simp; omega)) _)
  obtain ⟨chb, fhb⟩ := Open.bcell hb3
  have x0 : w3.cell? ⟨w2.heap.size, 0, none⟩ = some (.int .i64 (X 0).1) := by rw [chb _ _ (by first | (simp; done) | omega | (simp; omega))]; go_simp
  have x1 : w3.cell? ⟨w2.heap.size, 1, none⟩ = some (.bool (X 0).2.1) := by rw [chb _ _ (by first | (simp; done) | omega | (simp; omega))]; go_simp
  have x2 : w3.cell? ⟨w2.heap.size, 2, none⟩ = some (.int .i64 (X 0).2.2) := by rw [chb _ _ (by first | (simp; done) | omega | (simp; omega))]; go_simp
  have x3 : w3.cell? ⟨w2.heap.size, 3, none⟩ = some (.int .i64 (X 1).1) := by rw [chb _ _ (by first | (simp; done) | omega | (simp; omega))]; go_simp
  have x4 : w3.cell? ⟨w2.heap.size, 4, none⟩ = some (.bool (X 1).2.1) := by rw [chb _ _ (by first | (simp; done) | omega | (simp; omega))]; go_simp
  have x5 : w3.cell? ⟨w2.heap.size, 5, none⟩ = some (.int .i64 (X 1).2.2) := by rw [chb _ _ (by first | (simp; done) | omega | (simp; omega))]; go_simp
  have x6 : w3.cell? ⟨w2.heap.size, 6, none⟩ = some (.int .i64 (X 2).1) := by rw [chb _ _ (by first | (simp; done) | omega | (simp; omega))]; go_simp
  have x7 : w3.cell? ⟨w2.heap.size, 7, none⟩ = some (.bool (X 2).2.1) := by rw [chb _ _ (by first | (simp; done) | omega | (simp; omega))]; go_simp
  have x8 : w3.cell? ⟨w2.heap.size, 8, none⟩ = some (.int .i64 (X 2).2.2) := by rw [chb _ _ (by first | (simp; done) | omega | (simp; omega))]; go_simp
  have x9 : w3.cell? ⟨w2.heap.size, 9, none⟩ = some (.int .i64 (X 3).1) := by rw [chb _ _ (by first | (simp; done) | omega | (simp; omega))]; go_simp
  have x10 : w3.cell? ⟨w2.heap.size, 10, none⟩ = some (.bool (X 3).2.1) := by rw [chb _ _ (by first | (simp; done) | omega | (simp; omega))]; go_simp
  have x11 : w3.cell? ⟨w2.heap.size, 11, none⟩ = some (.int .i64 (X 3).2.2) := by rw [chb _ _ (by first | (simp; done) | omega | (simp; omega))]; go_simp
  have y0 : w3.cell? ⟨w2.heap.size + 1, 0, none⟩ = some (.int .i64 n) := by rw [chb _ _ (by first | (simp; done) | omega | (simp; omega))]; go_simp
  have y1 : w3.cell? ⟨w2.heap.size + 1, 1, none⟩ = some (.int .i64 a) := by rw [chb _ _ (by first | (simp; done) | omega | (simp; omega))]; go_simp
  have y2 : w3.cell? ⟨w2.heap.size + 1, 2, none⟩ = some (.bool L) := by rw [chb _ _ (by first | (simp; done) | omega | (simp; omega))]; go_simp
  clear hb3 chb fhb B2 p0' p1' p2' p3'
  have s31 : w2.heap.size < w3.heap.size := by omega
  have s32 : w2.heap.size + 1 < w3.heap.size := by omega
  have s33 : w2.heap.size < w3.heap.size + 1 := by omega
  have s34 : w2.heap.size + 1 < w3.heap.size + 1 := by omega
  have b0 := (KX.out 0 (by omega)).2; have b1 := (KX.out 1 (by omega)).2; have b2 := (KX.out 2 (by omega)).2; have b3 := (KX.out 3 (by omega)).2
  go_wp2
  have HW : Hid (SAt ((w3.alloc (.cells #[.int .i64 (X 0).1, .bool (X 0).2.1, .int .i64 r0, .int .i64 (X 1).1, .bool (X 1).2.1, .int .i64 r1, .int .i64 (X 2).1, .bool (X 2).2.1, .int .i64 r2, .int .i64 (X 3).1, .bool (X 3).2.1, .int .i64 r3] 41)).alloc (.cells #[.int .i64 n, .int .i64 a, .bool L] 44)) w2.heap.size w3.heap.size X r0 r1 r2 r3 n a L ∧ Below w.heap.size w ((w3.alloc (.cells #[.int .i64 (X 0).1, .bool (X 0).2.1, .int .i64 r0, .int .i64 (X 1).1, .bool (X 1).2.1, .int .i64 r1, .int .i64 (X 2).1, .bool (X 2).2.1, .int .i64 r2, .int .i64 (X 3).1, .bool (X 3).2.1, .int .i64 r3] 41)).alloc (.cells #[.int .i64 n, .int .i64 a, .bool L] 44))) := by
    refine ⟨⟨⟨?_, ?_, ?_, ?_, ?_, ?_, ?_, ?_, ?_, ?_, ?_, ?_⟩, ⟨?_, ?_, ?_, ?_, ?_, ?_, ?_, ?_, ?_, ?_, ?_, ?_⟩, ⟨?_, ?_, ?_⟩, ?_, ?_, ?_⟩, ?_⟩
    all_goals first | (go_simp; done) | skip
    repeat (first | with_reducible exact Below.refl _ _ | with_reducible exact B3 | ((with_reducible refine Below.setCell ?_ ?_ _); rotate_left; (· first | (simp; done) | omega | (simp; omega))) | with_reducible refine below_drewN ?_ _ | with_reducible refine Below.drew ?_ | ((with_reducible refine Below.alloc ?_ ?_ _); rotate_left; (· first | (simp; done) | omega | (simp; omega))) | exact Below.refl _ _ | exact B3 | refine Below.setCell ?_ (by first | (simp; done) | omega | (simp; omega)) _ | refine below_drewN ?_ _ | refine Below.drew ?_ | refine Below.alloc ?_ (by first | (simp; done) | omega | (simp; omega)) _)
  clear x0 x1 x2 x3 x4 x5 x6 x7 x8 x9 x10 x11 y0 y1 y2
  generalize (w3.alloc (.cells #[.int .i64 (X 0).1, .bool (X 0).2.1, .int .i64 r0, .int .i64 (X 1).1, .bool (X 1).2.1, .int .i64 r1, .int .i64 (X 2).1, .bool (X 2).2.1, .int .i64 r2, .int .i64 (X 3).1, .bool (X 3).2.1, .int .i64 r3] 41)).alloc (.cells #[.int .i64 n, .int .i64 a, .bool L] 44) = W0 at *
  obtain ⟨⟨x0, x1, x2, x3, x4, x5, x6, x7, x8, x9, x10, x11⟩, ⟨z0, z1, z2, z3, z4, z5, z6, z7, z8, z9, z10, z11⟩, ⟨y0, y1, y2⟩, v0, v1, v2⟩ := HW.out.1
  go_loopw [50] (fun i wr => SRel W0 i wr) (fun i _ => 4 - (intOf i).toNat)
  case atStart => exact ⟨0, 0, by omega, rfl, rfl⟩
  case round =>
    obtain ⟨k, m, hk, rfl, rfl⟩ := hrel
    rcases (by omega : k = 0 ∨ k = 1 ∨ k = 2 ∨ k = 3 ∨ k = 4) with rfl | rfl | rfl | rfl | rfl
    · have hm := E0.out
      rcases (by omega : (X 0).2.2 + 1 < 10000 ∧ r0 = (X 0).2.2 + 1 ∨ (X 0).2.2 = 9999 ∧ r0 = 10000 ∨ (X 0).2.2 = 10000 ∧ r0 = 10000) with ⟨h1, h2⟩ | ⟨h1, h2⟩ | ⟨h1, h2⟩
      · clear hm
        subst h2
        go_wp2
        go_quiet (fail)
        go_wp2
        go_roundw
        case rel => exact ⟨1, m + nq, by omega, rfl, by first | rfl | exact World.drewN_drewN _ _ _⟩
        case measure => simp [intOf]
      · clear hm
        subst h2
        rw [h1] at x2
        clear h1
        go_wp2
        go_quiet (fail)
        go_wp2
        go_roundw
        case rel => exact ⟨1, m + nq, by omega, rfl, by first | rfl | exact World.drewN_drewN _ _ _⟩
        case measure => simp [intOf]
      · clear hm
        subst h2
        rw [h1] at x2
        clear h1
        go_wp2
        go_quiet (fail)
        go_wp2
        go_roundw
        case rel => exact ⟨1, m + nq, by omega, rfl, by first | rfl | exact World.drewN_drewN _ _ _⟩
        case measure => simp [intOf]
    · have hm := E1.out
      rcases (by omega : (X 1).2.2 + 1 < 10000 ∧ r1 = (X 1).2.2 + 1 ∨ (X 1).2.2 = 9999 ∧ r1 = 10000 ∨ (X 1).2.2 = 10000 ∧ r1 = 10000) with ⟨h1, h2⟩ | ⟨h1, h2⟩ | ⟨h1, h2⟩
      · clear hm
        subst h2
        go_wp2
        go_quiet (fail)
        go_wp2
        go_roundw
        case rel => exact ⟨2, m + nq, by omega, rfl, by first | rfl | exact World.drewN_drewN _ _ _⟩
        case measure => simp [intOf]
      · clear hm
        subst h2
        rw [h1] at x5
        clear h1
        go_wp2
        go_quiet (fail)
        go_wp2
        go_roundw
        case rel => exact ⟨2, m + nq, by omega, rfl, by first | rfl | exact World.drewN_drewN _ _ _⟩
        case measure => simp [intOf]
      · clear hm
        subst h2
        rw [h1] at x5
        clear h1
        go_wp2
        go_quiet (fail)
        go_wp2
        go_roundw
        case rel => exact ⟨2, m + nq, by omega, rfl, by first | rfl | exact World.drewN_drewN _ _ _⟩
        case measure => simp [intOf]
    · have hm := E2.out
      rcases (by omega : (X 2).2.2 + 1 < 10000 ∧ r2 = (X 2).2.2 + 1 ∨ (X 2).2.2 = 9999 ∧ r2 = 10000 ∨ (X 2).2.2 = 10000 ∧ r2 = 10000) with ⟨h1, h2⟩ | ⟨h1, h2⟩ | ⟨h1, h2⟩
      · clear hm
        subst h2
        go_wp2
        go_quiet (fail)
        go_wp2
        go_roundw
        case rel => exact ⟨3, m + nq, by omega, rfl, by first | rfl | exact World.drewN_drewN _ _ _⟩
        case measure => simp [intOf]
      · clear hm
        subst h2
        rw [h1] at x8
        clear h1
        go_wp2
        go_quiet (fail)
        go_wp2
        go_roundw
        case rel => exact ⟨3, m + nq, by omega, rfl, by first | rfl | exact World.drewN_drewN _ _ _⟩
        case measure => simp [intOf]
      · clear hm
        subst h2
        rw [h1] at x8
        clear h1
        go_wp2
        go_quiet (fail)
        go_wp2
        go_roundw
        case rel => exact ⟨3, m + nq, by omega, rfl, by first | rfl | exact World.drewN_drewN _ _ _⟩
        case measure => simp [intOf]
    · have hm := E3.out
      rcases (by omega : (X 3).2.2 + 1 < 10000 ∧ r3 = (X 3).2.2 + 1 ∨ (X 3).2.2 = 9999 ∧ r3 = 10000 ∨ (X 3).2.2 = 10000 ∧ r3 = 10000) with ⟨h1, h2⟩ | ⟨h1, h2⟩ | ⟨h1, h2⟩
      · clear hm
        subst h2
        go_wp2
        go_quiet (fail)
        go_wp2
        go_roundw
        case rel => exact ⟨4, m + nq, by omega, rfl, by first | rfl | exact World.drewN_drewN _ _ _⟩
        case measure => simp [intOf]
      · clear hm
        subst h2
        rw [h1] at x11
        clear h1
        go_wp2
        go_quiet (fail)
        go_wp2
        go_roundw
        case rel => exact ⟨4, m + nq, by omega, rfl, by first | rfl | exact World.drewN_drewN _ _ _⟩
        case measure => simp [intOf]
      · clear hm
        subst h2
        rw [h1] at x11
        clear h1
        go_wp2
        go_quiet (fail)
        go_wp2
        go_roundw
        case rel => exact ⟨4, m + nq, by omega, rfl, by first | rfl | exact World.drewN_drewN _ _ _⟩
        case measure => simp [intOf]
    · go_wp2
      go_ret
      exact ⟨rfl, below_drewN HW.out.2 m⟩
set_option maxHeartbeats 8000000 in
set_option maxRecDepth 100000 in
theorem no (T : Team) (o0 o1 o2 o3 a0 a1 a2 a3 : Bool) (w : World) (hb : ∀ j, j < 4 → (-9223372036854775808 ≤ (T j).1 ∧ (T j).1 ≤ 9223372036854775807) ∧ -9223372036854775808 ≤ (T j).2.2 ∧ (T j).2.2 ≤ 9223372036854775807)
    (hno : ¬ ∀ j, j < 4 → OkS (T j)) :
    Calls Try.prog 7 #[teamV T, .agg #[.bool o0, .bool o1, .bool o2, .bool o3], .agg #[.bool a0, .bool a1, .bool a2, .bool a3]] w fun e w' => e = .returned (.bool true) ∧ Below w.heap.size w w' := by
  have HB := Lib.hid hb; have HNO := Lib.hid hno
  obtain ⟨X0, hX0⟩ : ∃ X0, planT (fun _ => (0, false, 0)) (sel4 false false false false) (sel4 false false false false) = X0 := ⟨_, rfl⟩
  have K0 : Hid (planT (fun _ => (0, false, 0)) (sel4 false false false false) (sel4 false false false false) = X0 ∧ ((planU (fun _ => (0, false, 0)) (sel4 false false false false) (sel4 false false false false)).length : Int) = 0 ∧ actI (planC (fun _ => (0, false, 0)) (sel4 false false false false) (sel4 false false false false)) 4 = 0 ∧ ((0 : Int) == 0) = true) := (⟨hX0, rfl, rfl, rfl⟩ : _ ∧ _ ∧ _ ∧ _)
  clear hb hno hX0
  go_enter Try.func7, Try.ntmps7
  go_wp2_with fail
  refine (plan_is (fun _ => (0, false, 0)) false false false false false false false false _ zero_ok _ _ _ _ K0.out).mono ?_
  rintro e1 w1 ⟨rfl, hb1⟩
  have z1 := hb1.size
  simp at z1
  have B1 : Below w.heap.size w w1 := by repeat (first | with_reducible exact Below.refl _ _ | ((with_reducible refine Below.setCell ?_ ?_ _); rotate_left; (· first | (simp; done) | omega | (simp; omega))) | with_reducible refine below_drewN ?_ _ | with_reducible refine Below.drew ?_ | ((with_reducible refine Below.trans ?_ (Below.mono hb1 ?_)); rotate_left; (· first | (simp; done) | omega | (simp; omega))) | ((with_reducible refine Below.alloc ?_ ?_ _); rotate_left; (· first | (simp; done) | omega | (simp; omega))) | exact Below.refl _ _ | refine Below.setCell ?_ (by first | (simp; done) | omega | (simp; omega)) _ | refine below_drewN ?_ _ | refine Below.drew ?_ | refine Below.trans ?_ (Below.mono hb1 (by first | (simp; done) | omega | (simp; omega))) | refine Below.alloc ?_ (by first | (simp; done) | omega | (simp; omega)) _)
  obtain ⟨chb, fhb⟩ := Open.bcell hb1
  have t0 : w1.cell? ⟨w.heap.size, 0, none⟩ = some (.int .i64 (T 0).1) := by rw [chb _ _ (by first | (simp; done) | omega | (simp; omega))]; go_simp
  have t1 : w1.cell? ⟨w.heap.size, 1, none⟩ = some (.bool (T 0).2.1) := by rw [chb _ _ (by first | (simp; done) | omega | (simp; omega))]; go_simp
  have t2 : w1.cell? ⟨w.heap.size, 2, none⟩ = some (.int .i64 (T 0).2.2) := by rw [chb _ _ (by first | (simp; done) | omega | (simp; omega))]; go_simp
  have t3 : w1.cell? ⟨w.heap.size, 3, none⟩ = some (.int .i64 (T 1).1) := by rw [chb _ _ (by first | (simp; done) | omega | (simp; omega))]; go_simp
  have t4 : w1.cell? ⟨w.heap.size, 4, none⟩ = some (.bool (T 1).2.1) := by rw [chb _ _ (by first | (simp; done) | omega | (simp; omega))]; go_simp
  have t5 : w1.cell? ⟨w.heap.size, 5, none⟩ = some (.int .i64 (T 1).2.2) := by rw [chb _ _ (by first | (simp; done) | omega | (simp; omega))]; go_simp
  have t6 : w1.cell? ⟨w.heap.size, 6, none⟩ = some (.int .i64 (T 2).1) := by rw [chb _ _ (by first | (simp; done) | omega | (simp; omega))]; go_simp
  have t7 : w1.cell? ⟨w.heap.size, 7, none⟩ = some (.bool (T 2).2.1) := by rw [chb _ _ (by first | (simp; done) | omega | (simp; omega))]; go_simp
  have t8 : w1.cell? ⟨w.heap.size, 8, none⟩ = some (.int .i64 (T 2).2.2) := by rw [chb _ _ (by first | (simp; done) | omega | (simp; omega))]; go_simp
  have t9 : w1.cell? ⟨w.heap.size, 9, none⟩ = some (.int .i64 (T 3).1) := by rw [chb _ _ (by first | (simp; done) | omega | (simp; omega))]; go_simp
  have t10 : w1.cell? ⟨w.heap.size, 10, none⟩ = some (.bool (T 3).2.1) := by rw [chb _ _ (by first | (simp; done) | omega | (simp; omega))]; go_simp
  have t11 : w1.cell? ⟨w.heap.size, 11, none⟩ = some (.int .i64 (T 3).2.2) := by rw [chb _ _ (by first | (simp; done) | omega | (simp; omega))]; go_simp
  have p0 : w1.cell? ⟨w.heap.size + 1, 0, none⟩ = some (.bool o0) := by rw [chb _ _ (by first | (simp; done) | omega | (simp; omega))]; go_simp
  have p1 : w1.cell? ⟨w.heap.size + 1, 1, none⟩ = some (.bool o1) := by rw [chb _ _ (by first | (simp; done) | omega | (simp; omega))]; go_simp
  have p2 : w1.cell? ⟨w.heap.size + 1, 2, none⟩ = some (.bool o2) := by rw [chb _ _ (by first | (simp; done) | omega | (simp; omega))]; go_simp
  have p3 : w1.cell? ⟨w.heap.size + 1, 3, none⟩ = some (.bool o3) := by rw [chb _ _ (by first | (simp; done) | omega | (simp; omega))]; go_simp
  have q0 : w1.cell? ⟨w.heap.size + 1 + 1, 0, none⟩ = some (.bool a0) := by rw [chb _ _ (by first | (simp; done) | omega | (simp; omega))]; go_simp
  have q1 : w1.cell? ⟨w.heap.size + 1 + 1, 1, none⟩ = some (.bool a1) := by rw [chb _ _ (by first | (simp; done) | omega | (simp; omega))]; go_simp
  have q2 : w1.cell? ⟨w.heap.size + 1 + 1, 2, none⟩ = some (.bool a2) := by rw [chb _ _ (by first | (simp; done) | omega | (simp; omega))]; go_simp
  have q3 : w1.cell? ⟨w.heap.size + 1 + 1, 3, none⟩ = some (.bool a3) := by rw [chb _ _ (by first | (simp; done) | omega | (simp; omega))]; go_simp
  clear hb1 chb fhb
  have sw1_0_0 : w.heap.size < w1.heap.size := by omega
  have sw1_1_0 : w.heap.size + 1 < w1.heap.size := by omega
  have sw1_2_0 : w.heap.size + 1 + 1 < w1.heap.size := by omega
  go_wp2_with fail
  refine (plan_no T _ _ _ _ _ _ _ _ _ HB.out HNO.out).mono ?_
  rintro e2 w2 ⟨c, hc, rfl, hb2⟩
  have z2 := hb2.size
  simp at z2
  have B2 : Below w.heap.size w w2 := by repeat (first | with_reducible exact Below.refl _ _ | with_reducible exact B1 | ((with_reducible refine Below.setCell ?_ ?_ _); rotate_left; (· first | (simp; done) | omega | (simp; omega))) | with_reducible refine below_drewN ?_ _ | with_reducible refine Below.drew ?_ | ((with_reducible refine Below.trans ?_ (Below.mono hb2 ?_)); rotate_left; (· first | (simp; done) | omega | (simp; omega))) | ((with_reducible refine Below.alloc ?_ ?_ _); rotate_left; (· first | (simp; done) | omega | (simp; omega))) | exact Below.refl _ _ | exact B1 | refine Below.setCell ?_ (by first | (simp; done) | omega | (simp; omega)) _ | refine below_drewN ?_ _ | refine Below.drew ?_ | refine Below.trans ?_ (Below.mono hb2 (by first | (simp; done) | omega | (simp; omega))) | refine Below.alloc ?_ (by first | (simp; done) | omega | (simp; omega)) _)
  have dc : (c != 0) = true := by simpa using hc
  clear hb2 B1 t0 t1 t2 t3 t4 t5 t6 t7 t8 t9 t10 t11 p0 p1 p2 p3 q0 q1 q2 q3 hc
  go_wp2
  go_ret
  refine ⟨rfl, ?_⟩
  repeat (first | with_reducible exact Below.refl _ _ | with_reducible exact B2 | ((with_reducible refine Below.setCell ?_ ?_ _); rotate_left; (· first | (simp; done) | omega | (simp; omega))) | with_reducible refine below_drewN ?_ _ | with_reducible refine Below.drew ?_ | ((with_reducible refine Below.alloc ?_ ?_ _); rotate_left; (· first | (simp; done) | omega | (simp; omega))) | exact Below.refl _ _ | exact B2 | refine Below.setCell ?_ (by first | (simp; done) | omega | (simp; omega)) _ | refine below_drewN ?_ _ | refine Below.drew ?_ | refine Below.alloc ?_ (by first | (simp; done) | omega | (simp; omega)) _)
theorem law (m0 : Int) (f0 : Bool) (r0 m1 : Int) (f1 : Bool) (r1 m2 : Int) (f2 : Bool) (r2 m3 : Int) (f3 : Bool) (r3 : Int) (o0 o1 o2 o3 a0 a1 a2 a3 : Bool) (w : World) (hm0 : -9223372036854775808 ≤ m0 ∧ m0 ≤ 9223372036854775807) (hr0 : -9223372036854775808 ≤ r0 ∧ r0 ≤ 9223372036854775807) (hm1 : -9223372036854775808 ≤ m1 ∧ m1 ≤ 9223372036854775807) (hr1 : -9223372036854775808 ≤ r1 ∧ r1 ≤ 9223372036854775807) (hm2 : -9223372036854775808 ≤ m2 ∧ m2 ≤ 9223372036854775807) (hr2 : -9223372036854775808 ≤ r2 ∧ r2 ≤ 9223372036854775807) (hm3 : -9223372036854775808 ≤ m3 ∧ m3 ≤ 9223372036854775807) (hr3 : -9223372036854775808 ≤ r3 ∧ r3 ≤ 9223372036854775807) :
    Calls Try.prog 7 #[.agg #[.int .i64 m0, .bool f0, .int .i64 r0, .int .i64 m1, .bool f1, .int .i64 r1, .int .i64 m2, .bool f2, .int .i64 r2, .int .i64 m3, .bool f3, .int .i64 r3], .agg #[.bool o0, .bool o1, .bool o2, .bool o3], .agg #[.bool a0, .bool a1, .bool a2, .bool a3]] w fun e w' => e = .returned (.bool true) ∧ Below w.heap.size w w' := by
  by_cases h : ∀ j, j < 4 → OkS (sel4 (m0, f0, r0) (m1, f1, r1) (m2, f2, r2) (m3, f3, r3) j)
  · exact yes (sel4 (m0, f0, r0) (m1, f1, r1) (m2, f2, r2) (m3, f3, r3)) o0 o1 o2 o3 a0 a1 a2 a3 w h
  · refine no (sel4 (m0, f0, r0) (m1, f1, r1) (m2, f2, r2) (m3, f3, r3)) o0 o1 o2 o3 a0 a1 a2 a3 w (fun j hj => ?_) h
    rcases (by omega : j = 0 ∨ j = 1 ∨ j = 2 ∨ j = 3) with rfl | rfl | rfl | rfl
    · exact ⟨hm0, hr0⟩
    · exact ⟨hm1, hr1⟩
    · exact ⟨hm2, hr2⟩
    · exact ⟨hm3, hr3⟩
set_option maxRecDepth 100000 in
theorem lifted (os : Os) (started : os.Started) (H : Type) (enc : TypeId × Value → H) :
    ReturnsInHanded {} Try.checked os 7 .any (Rows.redStaysSpec.pre6 enc Try.prog Try.f7 Rows.redStaysRow.domain false) (Rows.redStaysSpec.post enc Try.prog Try.f7 false true false false) := by
  refine returnsInHanded_of_change (C := Try.checked) own started (by kernel_rfl) Try.func7
    (ChangeSpec.witness6 (enc := enc) (C := Try.checked) false ⟨#[], #[.agg #[.int .i64 0, .bool false, .int .i64 0, .int .i64 0, .bool false, .int .i64 0, .int .i64 0, .bool false, .int .i64 0, .int .i64 0, .bool false, .int .i64 0], .agg #[.bool false, .bool false, .bool false, .bool false], .agg #[.bool false, .bool false, .bool false, .bool false]], []⟩ 8 (by kernel_rfl) (by kernel_rfl) (by kernel_rfl) (by kernel_rfl)) ?_
  intro W base args ds gs before hval0 hW hcnd _
  have hval : ∀ (j : Nat) t v, Try.f7.params[j]? = some t → args[j]? = some v → Value.okWide Try.prog W .any base t v := hval0
  have hW' := hW
  obtain ⟨p, q, hA0, hV, rfl, hfz, hnd⟩ := hW
  have hA : DataW.TrodAll enc Try.prog W 0 (fun _ => true) true Try.f7.params.toList args.toList ds p := hA0
  rw [Try.params7] at hA hval
  obtain ⟨v0, vs0, d0, ds0, p0, q0, hargs, rfl, rfl, h0, r0⟩ := trodAll_cons hA
  obtain ⟨v1, vs1, d1, ds1, p1, q1, rfl, rfl, rfl, h1, r1⟩ := trodAll_cons r0
  obtain ⟨v2, vs2, d2, ds2, p2, q2, rfl, rfl, rfl, h2, r2⟩ := trodAll_cons r1
  obtain ⟨rfl, rfl, rfl⟩ := trodAll_nil r2
  obtain rfl : args = #[v0, v1, v2] := by cases args; simp_all
  obtain ⟨rfl, rfl⟩ := trodVars_none hV
  have k0 := h0
  have lt0 : ∀ x ∈ p0, x.block < W.heap.size := by obtain ⟨m, hm⟩ := k0; exact DataW.trod_lt m _ _ _ hm
  have k1 := h1
  have lt1 : ∀ x ∈ p1, x.block < W.heap.size := by obtain ⟨m, hm⟩ := k1; exact DataW.trod_lt m _ _ _ hm
  have k2 := h2
  have lt2 : ∀ x ∈ p2, x.block < W.heap.size := by obtain ⟨m, hm⟩ := k2; exact DataW.trod_lt m _ _ _ hm
  obtain ⟨cs0, rfl, lf0_0⟩ := open_flat 12 [3, 4, 3, 3, 4, 3, 3, 4, 3, 3, 4, 3] (by kernel_rfl) (by kernel_rfl) (by kernel_rfl) (hval 0 41 v0 rfl rfl) h0
  obtain ⟨c0_0, r0_0, rfl, y0_0, lf0_1⟩ := leafs_cons lf0_0
  obtain ⟨a0_0, rfl, w0_0⟩ := leaf_int Try.underlying3 y0_0
  obtain ⟨c0_1, r0_1, rfl, y0_1, lf0_2⟩ := leafs_cons lf0_1
  obtain ⟨a0_1, rfl⟩ := leaf_bool Try.underlying4 y0_1
  obtain ⟨c0_2, r0_2, rfl, y0_2, lf0_3⟩ := leafs_cons lf0_2
  obtain ⟨a0_2, rfl, w0_2⟩ := leaf_int Try.underlying3 y0_2
  obtain ⟨c0_3, r0_3, rfl, y0_3, lf0_4⟩ := leafs_cons lf0_3
  obtain ⟨a0_3, rfl, w0_3⟩ := leaf_int Try.underlying3 y0_3
  obtain ⟨c0_4, r0_4, rfl, y0_4, lf0_5⟩ := leafs_cons lf0_4
  obtain ⟨a0_4, rfl⟩ := leaf_bool Try.underlying4 y0_4
  obtain ⟨c0_5, r0_5, rfl, y0_5, lf0_6⟩ := leafs_cons lf0_5
  obtain ⟨a0_5, rfl, w0_5⟩ := leaf_int Try.underlying3 y0_5
  obtain ⟨c0_6, r0_6, rfl, y0_6, lf0_7⟩ := leafs_cons lf0_6
  obtain ⟨a0_6, rfl, w0_6⟩ := leaf_int Try.underlying3 y0_6
  obtain ⟨c0_7, r0_7, rfl, y0_7, lf0_8⟩ := leafs_cons lf0_7
  obtain ⟨a0_7, rfl⟩ := leaf_bool Try.underlying4 y0_7
  obtain ⟨c0_8, r0_8, rfl, y0_8, lf0_9⟩ := leafs_cons lf0_8
  obtain ⟨a0_8, rfl, w0_8⟩ := leaf_int Try.underlying3 y0_8
  obtain ⟨c0_9, r0_9, rfl, y0_9, lf0_10⟩ := leafs_cons lf0_9
  obtain ⟨a0_9, rfl, w0_9⟩ := leaf_int Try.underlying3 y0_9
  obtain ⟨c0_10, r0_10, rfl, y0_10, lf0_11⟩ := leafs_cons lf0_10
  obtain ⟨a0_10, rfl⟩ := leaf_bool Try.underlying4 y0_10
  obtain ⟨c0_11, r0_11, rfl, y0_11, lf0_12⟩ := leafs_cons lf0_11
  obtain ⟨a0_11, rfl, w0_11⟩ := leaf_int Try.underlying3 y0_11
  obtain rfl := leafs_nil lf0_12
  obtain ⟨cs1, rfl, lf1_0⟩ := open_flat 12 [4, 4, 4, 4] (by kernel_rfl) (by kernel_rfl) (by kernel_rfl) (hval 1 42 v1 rfl rfl) h1
  obtain ⟨c1_0, r1_0, rfl, y1_0, lf1_1⟩ := leafs_cons lf1_0
  obtain ⟨a1_0, rfl⟩ := leaf_bool Try.underlying4 y1_0
  obtain ⟨c1_1, r1_1, rfl, y1_1, lf1_2⟩ := leafs_cons lf1_1
  obtain ⟨a1_1, rfl⟩ := leaf_bool Try.underlying4 y1_1
  obtain ⟨c1_2, r1_2, rfl, y1_2, lf1_3⟩ := leafs_cons lf1_2
  obtain ⟨a1_2, rfl⟩ := leaf_bool Try.underlying4 y1_2
  obtain ⟨c1_3, r1_3, rfl, y1_3, lf1_4⟩ := leafs_cons lf1_3
  obtain ⟨a1_3, rfl⟩ := leaf_bool Try.underlying4 y1_3
  obtain rfl := leafs_nil lf1_4
  obtain ⟨cs2, rfl, lf2_0⟩ := open_flat 12 [4, 4, 4, 4] (by kernel_rfl) (by kernel_rfl) (by kernel_rfl) (hval 2 42 v2 rfl rfl) h2
  obtain ⟨c2_0, r2_0, rfl, y2_0, lf2_1⟩ := leafs_cons lf2_0
  obtain ⟨a2_0, rfl⟩ := leaf_bool Try.underlying4 y2_0
  obtain ⟨c2_1, r2_1, rfl, y2_1, lf2_2⟩ := leafs_cons lf2_1
  obtain ⟨a2_1, rfl⟩ := leaf_bool Try.underlying4 y2_1
  obtain ⟨c2_2, r2_2, rfl, y2_2, lf2_3⟩ := leafs_cons lf2_2
  obtain ⟨a2_2, rfl⟩ := leaf_bool Try.underlying4 y2_2
  obtain ⟨c2_3, r2_3, rfl, y2_3, lf2_4⟩ := leafs_cons lf2_3
  obtain ⟨a2_3, rfl⟩ := leaf_bool Try.underlying4 y2_3
  obtain rfl := leafs_nil lf2_4
  clear hA0 hval0
  refine (law a0_0 a0_1 a0_2 a0_3 a0_4 a0_5 a0_6 a0_7 a0_8 a0_9 a0_10 a0_11 a1_0 a1_1 a1_2 a1_3 a2_0 a2_1 a2_2 a2_3 W (bounds_i64 w0_0) (bounds_i64 w0_2) (bounds_i64 w0_3) (bounds_i64 w0_5) (bounds_i64 w0_6) (bounds_i64 w0_8) (bounds_i64 w0_9) (bounds_i64 w0_11)).mono fun e W' ⟨he, bel⟩ => ?_
  subst he
  exact ⟨_, rfl, _, _, _, [], _, [], hW', trodAll_mk1 (shut_bool Try.underlying4 _), (trodAll_cons_mk (Below.trod laidOut (by kernel_rfl) (of_decide_eq_true (by kernel_rfl)) k0 bel lt0) (trodAll_cons_mk (Below.trod laidOut (by kernel_rfl) (of_decide_eq_true (by kernel_rfl)) k1 bel lt1) (trodAll_cons_mk (Below.trod laidOut (by kernel_rfl) (of_decide_eq_true (by kernel_rfl)) k2 bel lt2) trodAll_mk0))), rfl, bel.frame _, fun h => by cases h⟩
theorem over : Rows.redStaysRow.holds Try.pinned (OpenSpec.ofChange Rows.redStaysSpec) :=
  OpenClaim.holds_of_wide 7 Try.f7 rfl rfl rfl rfl rfl rfl rfl ⟨rfl, rfl, rfl, rfl, rfl⟩ rfl rfl rfl rfl rfl (by kernel_rfl) Try.func7 (by kernel_rfl)
    (of_decide_eq_true (by kernel_rfl)) (by unfold Func.isWrapper; first | (rw [if_pos (by decide +kernel)]; kernel_rfl) | (rw [if_neg (by decide +kernel)]; exact ⟨rfl, rfl⟩))
    (fun os started H enc _ => lifted os started H enc)
theorem proved : Rows.RedStaysSaid := over
#print axioms proved

end Go.Proofs.Ytfifckcjadbiiaa.redStays
