/- RedSafe: whatever the lanes, the oil and the faults are, the law answers true and leaves memory as it was. -/
import Derived.Test.YtfifckcjadbiiaaRedFacts
namespace Go.Proofs.Ytfifckcjadbiiaa.redSafe
open Go.ChangeShapes Go.WideShapes Go.ChangeAt Go.RowKit Go.Proofs.Ytfifckcjadbiiaa Go.Proofs.Ytfifckcjadbiiaa.Open
set_option linter.unusedVariables false
def SafeRel (W0 : World) (X : Team) (act dmp i : Value) (wr : World) : Prop := ∃ k : Nat, k ≤ 4 ∧ i = .int .i64 k ∧ act = .int .i64 (actI X k) ∧ dmp = .int .i64 (dmpI X k) ∧ Below W0.heap.size W0 wr
def MemAt (w : World) (b b2 : Nat) (o0 o1 o2 o3 a0 a1 a2 a3 : Bool) (n a : Int) (L : Bool) : Prop :=
  w.cell? ⟨b + 1, 0, none⟩ = some (.bool o0) ∧ w.cell? ⟨b + 1, 1, none⟩ = some (.bool o1) ∧ w.cell? ⟨b + 1, 2, none⟩ = some (.bool o2) ∧ w.cell? ⟨b + 1, 3, none⟩ = some (.bool o3) ∧
  w.cell? ⟨b + 1 + 1, 0, none⟩ = some (.bool a0) ∧ w.cell? ⟨b + 1 + 1, 1, none⟩ = some (.bool a1) ∧ w.cell? ⟨b + 1 + 1, 2, none⟩ = some (.bool a2) ∧ w.cell? ⟨b + 1 + 1, 3, none⟩ = some (.bool a3) ∧
  w.cell? ⟨b2 + 1, 0, none⟩ = some (.int .i64 n) ∧ w.cell? ⟨b2 + 1, 1, none⟩ = some (.int .i64 a) ∧ w.cell? ⟨b2 + 1, 2, none⟩ = some (.bool L)
def FirstIs (X0 : Team) : Prop := (X0 0).1 = 2 ∧ (X0 1).1 = 1
theorem first_is : FirstIs (planT (fun _ => (0, false, 0)) (sel4 true false false false) (sel4 true true true true)) := ⟨rfl, rfl⟩
set_option maxHeartbeats 8000000 in
set_option maxRecDepth 100000 in
theorem yes (T : Team) (o0 o1 o2 o3 a0 a1 a2 a3 : Bool) (w : World) (hok : ∀ j, j < 4 → OkS (T j)) :
    Calls Try.prog 6 #[teamV T, .agg #[.bool o0, .bool o1, .bool o2, .bool o3], .agg #[.bool a0, .bool a1, .bool a2, .bool a3]] w fun e w' => e = .returned (.bool true) ∧ Below w.heap.size w w' := by
  have HOK := Lib.hid hok
  have hf := first_is
  obtain ⟨X0, hX0⟩ : ∃ X0, planT (fun _ => (0, false, 0)) (sel4 true false false false) (sel4 true true true true) = X0 := ⟨_, rfl⟩
  have K0 : Hid (planT (fun _ => (0, false, 0)) (sel4 true false false false) (sel4 true true true true) = X0 ∧ ((planU (fun _ => (0, false, 0)) (sel4 true false false false) (sel4 true true true true)).length : Int) = 3 ∧ actI (planC (fun _ => (0, false, 0)) (sel4 true false false false) (sel4 true true true true)) 4 = 2 ∧ ((3 : Int) == 0) = false) := (⟨hX0, rfl, rfl, rfl⟩ : _ ∧ _ ∧ _ ∧ _)
  rw [hX0] at hf
  have f0 : ((X0 0).1 != 2) = false := by rw [hf.1]; rfl
  have f1 : ((X0 1).1 != 1) = false := by rw [hf.2]; rfl
  obtain ⟨X, hX⟩ : ∃ X, planT T (sel4 a0 a1 a2 a3) (sel4 o0 o1 o2 o3) = X := ⟨_, rfl⟩
  obtain ⟨n, hn⟩ : ∃ n : Int, ((planU T (sel4 a0 a1 a2 a3) (sel4 o0 o1 o2 o3)).length : Int) = n := ⟨_, rfl⟩
  obtain ⟨L, hL⟩ : ∃ L, (n == 0) = L := ⟨_, rfl⟩
  have hs := safe_all T (sel4 a0 a1 a2 a3) (sel4 o0 o1 o2 o3) hok
  rw [hX] at hs
  obtain ⟨s1, s2, s3⟩ := hs
  have K1 : Hid (planT T (sel4 a0 a1 a2 a3) (sel4 o0 o1 o2 o3) = X ∧ ((planU T (sel4 a0 a1 a2 a3) (sel4 o0 o1 o2 o3)).length : Int) = n ∧ actI (planC T (sel4 a0 a1 a2 a3) (sel4 o0 o1 o2 o3)) 4 = actI X 4 ∧ (n == 0) = L) := (⟨hX, hn, s2, hL⟩ : _ ∧ _ ∧ _ ∧ _)
  have s4 : (n = 0 ∧ L = true ∧ actI X 4 = 0 ∧ dmpI X 4 = 4) ∨ ((0 < n ∧ n ≤ 4) ∧ L = false ∧ actI X 4 = min 2 n ∧ dmpI X 4 = 0) := by
    rcases s3 with ⟨h1, h2, h3⟩ | ⟨h1, h2, h3, h4⟩
    · exact .inl ⟨by omega, by rw [← hL, ← hn, h1]; rfl, h2, h3⟩
    · exact .inr ⟨⟨by omega, by omega⟩, by rw [← hL, ← hn]; exact beq_eq_false_iff_ne.2 (by omega), by rw [← hn]; exact h3, h4⟩
  have S1 := Lib.hid s1; have S4 := Lib.hid s4
  clear hok hX0 hX hn hL s1 s2 s3 s4 hf
  go_enter Try.func6, Try.ntmps6
  go_wp2_with fail
  refine (plan_is (fun _ => (0, false, 0)) true true true true true false false false _ zero_ok _ _ _ _ K0.out).mono ?_
  rintro e1 w1 ⟨rfl, hb1⟩
  have z1 := hb1.size
  simp at z1
  have B1 : Below w.heap.size w w1 := by repeat (first | with_reducible exact Below.refl _ _ | ((with_reducible refine Below.setCell ?_ ?_ _); rotate_left; (· first | (simp; done) | omega | (simp; omega))) | with_reducible refine below_drewN ?_ _ | with_reducible refine Below.drew ?_ | ((with_reducible refine Below.trans ?_ (Below.mono hb1 ?_)); rotate_left; (· first | (simp; done) | omega | (simp; omega))) | ((with_reducible refine Below.alloc ?_ ?_ _); rotate_left; (· first | (simp; done) | omega | (simp; omega))) | exact Below.refl _ _ | refine Below.setCell ?_ (by first | (simp; done) | omega | (simp; omega)) _ | refine below_drewN ?_ _ | refine Below.drew ?_ | refine Below.trans ?_ (Below.mono hb1 (by first | (simp; done) | omega | (simp; omega))) | refine Below.alloc ?_ (by first | (simp; done) | omega | (simp; omega)) _)
  obtain ⟨chb, fhb⟩ := Open.bcell hb1
  have t0 : w1.cell? ⟨w.heap.size, 0, none⟩ = some (.int .i64 (T 0).1) := by rw [chb _ _ (by first | (simp; done) | omega | (simp; omega))]; go_simp
  have t1 : w1.cell? ⟨w.heap.size, 1, none⟩ = some (.bool (T 0).2.1) := by rw [chb _ _ (by first | (simp; done) | omega | (simp; omega))]; go_simp
  have t2 : w1.cell? ⟨w.heap.size, 2, none⟩ = some (.int .i64 (T 0).2.2) := by rw [chb _ _ (by first | (simp; done) | omega | (simp; omega))]; go_simp
  have t3 : w1.cell? ⟨w.heap.size, 3, none⟩ = some (.int .i64 (T 1).1) := by rw [chb _ _ (by first | (simp; done) | omega | (simp; omega))]; go_simp
  have t4 : w1.cell? ⟨w.heap.size, 4, none⟩ = some (.bool (T 1).2.1) := by rw [chb _ _ (by first | (simp; done) | omega | (simp; omega))]; go_simp
  have t5 : w1.cell? ⟨w.heap.size, 5, none⟩ = some (.int .i64 (T 1).2.2) := by rw [chb _ _ (by first | (simp; done) | omega | (simp; omega))]; go_simp
  have t6 : w1.cell? ⟨w.heap.size, 6, none⟩ = some (.int .i64 (T 2).1) := by rw [chb _ _ (by first | (simp; done) | omega | (simp; omega))]; go_simp
  have t7 : w1.cell? ⟨w.heap.size, 7, none⟩ = some (.bool (T 2).2.1) := by rw [chb _ _ (by first | (simp; done) | omega | (simp; omega))]; go_simp
  have t8 : w1.cell? ⟨w.heap.size, 8, none⟩ = some (.int .i64 (T 2).2.2) := by rw [chb _ _ (by first | (simp; done) | omega | (simp; omega))]; go_simp
  have t9 : w1.cell? ⟨w.heap.size, 9, none⟩ = some (.int .i64 (T 3).1) := by rw [chb _ _ (by first | (simp; done) | omega | (simp; omega))]; go_simp
  have t10 : w1.cell? ⟨w.heap.size, 10, none⟩ = some (.bool (T 3).2.1) := by rw [chb _ _ (by first | (simp; done) | omega | (simp; omega))]; go_simp
  have t11 : w1.cell? ⟨w.heap.size, 11, none⟩ = some (.int .i64 (T 3).2.2) := by rw [chb _ _ (by first | (simp; done) | omega | (simp; omega))]; go_simp
  have p0 : w1.cell? ⟨w.heap.size + 1, 0, none⟩ = some (.bool o0) := by rw [chb _ _ (by first | (simp; done) | omega | (simp; omega))]; go_simp
  have p1 : w1.cell? ⟨w.heap.size + 1, 1, none⟩ = some (.bool o1) := by rw [chb _ _ (by first | (simp; done) | omega | (simp; omega))]; go_simp
  have p2 : w1.cell? ⟨w.heap.size + 1, 2, none⟩ = some (.bool o2) := by rw [chb _ _ (by first | (simp; done) | omega | (simp; omega))]; go_simp
  have p3 : w1.cell? ⟨w.heap.size + 1, 3, none⟩ = some (.bool o3) := by rw [chb _ _ (by first | (simp; done) | omega | (simp; omega))]; go_simp
  have q0 : w1.cell? ⟨w.heap.size + 1 + 1, 0, none⟩ = some (.bool a0) := by rw [chb _ _ (by first | (simp; done) | omega | (simp; omega))]; go_simp
  have q1 : w1.cell? ⟨w.heap.size + 1 + 1, 1, none⟩ = some (.bool a1) := by rw [chb _ _ (by first | (simp; done) | omega | (simp; omega))]; go_simp
  have q2 : w1.cell? ⟨w.heap.size + 1 + 1, 2, none⟩ = some (.bool a2) := by rw [chb _ _ (by first | (simp; done) | omega | (simp; omega))]; go_simp
  have q3 : w1.cell? ⟨w.heap.size + 1 + 1, 3, none⟩ = some (.bool a3) := by rw [chb _ _ (by first | (simp; done) | omega | (simp; omega))]; go_simp
  clear hb1 chb fhb
  have sw1_0_0 : w.heap.size < w1.heap.size := by omega
  have sw1_0_1 : w.heap.size < w1.heap.size + 1 := by omega
  have sw1_1_0 : w.heap.size + 1 < w1.heap.size := by omega
  have sw1_1_1 : w.heap.size + 1 < w1.heap.size + 1 := by omega
  have sw1_2_0 : w.heap.size + 1 + 1 < w1.heap.size := by omega
  have sw1_2_1 : w.heap.size + 1 + 1 < w1.heap.size + 1 := by omega
  go_wp2_with fail
  refine (plan_is T _ _ _ _ _ _ _ _ _ HOK.out _ _ _ _ K1.out).mono ?_
  rintro e2 w2 ⟨rfl, hb2⟩
  have z2 := hb2.size
  simp at z2
  have B2 : Below w.heap.size w w2 := by repeat (first | with_reducible exact Below.refl _ _ | with_reducible exact B1 | ((with_reducible refine Below.setCell ?_ ?_ _); rotate_left; (· first | (simp; done) | omega | (simp; omega))) | with_reducible refine below_drewN ?_ _ | with_reducible refine Below.drew ?_ | ((with_reducible refine Below.trans ?_ (Below.mono hb2 ?_)); rotate_left; (· first | (simp; done) | omega | (simp; omega))) | ((with_reducible refine Below.alloc ?_ ?_ _); rotate_left; (· first | (simp; done) | omega | (simp; omega))) | exact Below.refl _ _ | exact B1 | refine Below.setCell ?_ (by first | (simp; done) | omega | (simp; omega)) _ | refine below_drewN ?_ _ | refine Below.drew ?_ | refine Below.trans ?_ (Below.mono hb2 (by first | (simp; done) | omega | (simp; omega))) | refine Below.alloc ?_ (by first | (simp; done) | omega | (simp; omega)) _)
  have p0' : w2.cell? ⟨w.heap.size + 1, 0, none⟩ = some (.bool o0) := cell_later hb2 (by go_simp)
  have p1' : w2.cell? ⟨w.heap.size + 1, 1, none⟩ = some (.bool o1) := cell_later hb2 (by go_simp)
  have p2' : w2.cell? ⟨w.heap.size + 1, 2, none⟩ = some (.bool o2) := cell_later hb2 (by go_simp)
  have p3' : w2.cell? ⟨w.heap.size + 1, 3, none⟩ = some (.bool o3) := cell_later hb2 (by go_simp)
  have q0' : w2.cell? ⟨w.heap.size + 1 + 1, 0, none⟩ = some (.bool a0) := cell_later hb2 (by go_simp)
  have q1' : w2.cell? ⟨w.heap.size + 1 + 1, 1, none⟩ = some (.bool a1) := cell_later hb2 (by go_simp)
  have q2' : w2.cell? ⟨w.heap.size + 1 + 1, 2, none⟩ = some (.bool a2) := cell_later hb2 (by go_simp)
  have q3' : w2.cell? ⟨w.heap.size + 1 + 1, 3, none⟩ = some (.bool a3) := cell_later hb2 (by go_simp)
  clear hb2 B1 t0 t1 t2 t3 t4 t5 t6 t7 t8 t9 t10 t11 p0 p1 p2 p3 q0 q1 q2 q3
  have s20 : w.heap.size + 1 < w2.heap.size := by omega
  have s21 : w.heap.size + 1 < w2.heap.size + 1 := by omega
  have s22 : w.heap.size + 1 + 1 < w2.heap.size := by omega
  have s23 : w.heap.size + 1 + 1 < w2.heap.size + 1 := by omega
  have ix0 : ∀ w : World, (Instr.index 41 (.agg #[.int .i64 (X 0).1, .bool (X 0).2.1, .int .i64 (X 0).2.2, .int .i64 (X 1).1, .bool (X 1).2.1, .int .i64 (X 1).2.2, .int .i64 (X 2).1, .bool (X 2).2.1, .int .i64 (X 2).2.2, .int .i64 (X 3).1, .bool (X 3).2.1, .int .i64 (X 3).2.2]) (.int .i64 0)).run Try.prog w = .ok (.agg #[.int .i64 (X 0).1, .bool (X 0).2.1, .int .i64 (X 0).2.2]) w := fun _ => by kernel_rfl
  have ix1 : ∀ w : World, (Instr.index 41 (.agg #[.int .i64 (X 0).1, .bool (X 0).2.1, .int .i64 (X 0).2.2, .int .i64 (X 1).1, .bool (X 1).2.1, .int .i64 (X 1).2.2, .int .i64 (X 2).1, .bool (X 2).2.1, .int .i64 (X 2).2.2, .int .i64 (X 3).1, .bool (X 3).2.1, .int .i64 (X 3).2.2]) (.int .i64 1)).run Try.prog w = .ok (.agg #[.int .i64 (X 1).1, .bool (X 1).2.1, .int .i64 (X 1).2.2]) w := fun _ => by kernel_rfl
  have ix2 : ∀ w : World, (Instr.index 41 (.agg #[.int .i64 (X 0).1, .bool (X 0).2.1, .int .i64 (X 0).2.2, .int .i64 (X 1).1, .bool (X 1).2.1, .int .i64 (X 1).2.2, .int .i64 (X 2).1, .bool (X 2).2.1, .int .i64 (X 2).2.2, .int .i64 (X 3).1, .bool (X 3).2.1, .int .i64 (X 3).2.2]) (.int .i64 2)).run Try.prog w = .ok (.agg #[.int .i64 (X 2).1, .bool (X 2).2.1, .int .i64 (X 2).2.2]) w := fun _ => by kernel_rfl
  have ix3 : ∀ w : World, (Instr.index 41 (.agg #[.int .i64 (X 0).1, .bool (X 0).2.1, .int .i64 (X 0).2.2, .int .i64 (X 1).1, .bool (X 1).2.1, .int .i64 (X 1).2.2, .int .i64 (X 2).1, .bool (X 2).2.1, .int .i64 (X 2).2.2, .int .i64 (X 3).1, .bool (X 3).2.1, .int .i64 (X 3).2.2]) (.int .i64 3)).run Try.prog w = .ok (.agg #[.int .i64 (X 3).1, .bool (X 3).2.1, .int .i64 (X 3).2.2]) w := fun _ => by kernel_rfl
  go_wp2
  have HW : Hid (MemAt ((w2.alloc (.cells #[.int .i64 (X 0).1, .bool (X 0).2.1, .int .i64 (X 0).2.2, .int .i64 (X 1).1, .bool (X 1).2.1, .int .i64 (X 1).2.2, .int .i64 (X 2).1, .bool (X 2).2.1, .int .i64 (X 2).2.2, .int .i64 (X 3).1, .bool (X 3).2.1, .int .i64 (X 3).2.2] 41)).alloc (.cells #[.int .i64 n, .int .i64 (actI X 4), .bool L] 44)) w.heap.size w2.heap.size o0 o1 o2 o3 a0 a1 a2 a3 n (actI X 4) L ∧ Below w.heap.size w ((w2.alloc (.cells #[.int .i64 (X 0).1, .bool (X 0).2.1, .int .i64 (X 0).2.2, .int .i64 (X 1).1, .bool (X 1).2.1, .int .i64 (X 1).2.2, .int .i64 (X 2).1, .bool (X 2).2.1, .int .i64 (X 2).2.2, .int .i64 (X 3).1, .bool (X 3).2.1, .int .i64 (X 3).2.2] 41)).alloc (.cells #[.int .i64 n, .int .i64 (actI X 4), .bool L] 44))) := by
    refine ⟨⟨?_, ?_, ?_, ?_, ?_, ?_, ?_, ?_, ?_, ?_, ?_⟩, ?_⟩
    all_goals first | (go_simp; done) | skip
    repeat (first | with_reducible exact Below.refl _ _ | with_reducible exact B2 | ((with_reducible refine Below.setCell ?_ ?_ _); rotate_left; (· first | (simp; done) | omega | (simp; omega))) | with_reducible refine below_drewN ?_ _ | with_reducible refine Below.drew ?_ | ((with_reducible refine Below.alloc ?_ ?_ _); rotate_left; (· first | (simp; done) | omega | (simp; omega))) | exact Below.refl _ _ | exact B2 | refine Below.setCell ?_ (by first | (simp; done) | omega | (simp; omega)) _ | refine below_drewN ?_ _ | refine Below.drew ?_ | refine Below.alloc ?_ (by first | (simp; done) | omega | (simp; omega)) _)
  clear p0' p1' p2' p3' q0' q1' q2' q3'
  generalize (w2.alloc (.cells #[.int .i64 (X 0).1, .bool (X 0).2.1, .int .i64 (X 0).2.2, .int .i64 (X 1).1, .bool (X 1).2.1, .int .i64 (X 1).2.2, .int .i64 (X 2).1, .bool (X 2).2.1, .int .i64 (X 2).2.2, .int .i64 (X 3).1, .bool (X 3).2.1, .int .i64 (X 3).2.2] 41)).alloc (.cells #[.int .i64 n, .int .i64 (actI X 4), .bool L] 44) = W0 at *
  obtain ⟨p0, p1, p2, p3, q0, q1, q2, q3, y0, y1, y2⟩ := HW.out.1
  go_loopw [13, 14, 58] (fun act dmp i wr => SafeRel W0 X act dmp i wr) (fun _ _ i _ => 4 - (intOf i).toNat)
  case atStart => exact ⟨0, by omega, rfl, rfl, rfl, Below.refl _ _⟩
  case round =>
    obtain ⟨k, hk, rfl, rfl, rfl, hB⟩ := hrel
    have l1 : w.heap.size + 1 < wr.heap.size := by have := World.block_lt_of_cell? _ _ p0; have := hB.size; simp at *; omega
    have l0 : w.heap.size < wr.heap.size := by omega
    have l2 : w.heap.size + 1 + 1 < wr.heap.size := by have := World.block_lt_of_cell? _ _ q0; have := hB.size; simp at *; omega
    replace p0 := cell_later hB p0; replace p1 := cell_later hB p1; replace p2 := cell_later hB p2; replace p3 := cell_later hB p3
    replace q0 := cell_later hB q0; replace q1 := cell_later hB q1; replace q2 := cell_later hB q2; replace q3 := cell_later hB q3
    replace y0 := cell_later hB y0; replace y1 := cell_later hB y1; replace y2 := cell_later hB y2
    have HB := Lib.hid hB
    have zB := hB.size
    clear hB
    rcases (by omega : k = 0 ∨ k = 1 ∨ k = 2 ∨ k = 3 ∨ k = 4) with rfl | rfl | rfl | rfl | rfl
    · obtain ⟨g1, g2, g3⟩ := S1.out 0 (by omega)
      have ba := actI_bd X 0
      have bd := dmpI_bd X 0
      have HA : Hid (actI X 1 = actI X 0 + if (X 0).1 = 1 then 1 else 0) := (rfl : actI X 1 = actI X 0 + if (X 0).1 = 1 then 1 else 0)
      have HD : Hid (dmpI X 1 = dmpI X 0 + if (X 0).1 = 3 then 1 else 0) := (rfl : dmpI X 1 = dmpI X 0 + if (X 0).1 = 3 then 1 else 0)
      have HG := Lib.hid g1
      clear g1
      have hcase : ((X 0).1 = 1 ∧ a0 = false ∧ (X 0).2.1 = false ∧ o0 = true) ∨ ((X 0).1 ≠ 1 ∧ (a0 = false ∨ a0 = true ∧ (X 0).2.1 = true)) := by
        by_cases h1 : (X 0).1 = 1
        · have h2 := g3 h1
          have h3 : a0 = false := by
            cases hc : a0
            · rfl
            · have h4 := g2 hc
              rw [h2.1] at h4
              exact absurd h4 (by decide)
          exact .inl ⟨h1, h3, h2⟩
        · refine .inr ⟨h1, ?_⟩
          cases hc : a0
          · exact .inl rfl
          · exact .inr ⟨rfl, g2 hc⟩
      clear g2 g3
      rcases hcase with ⟨h1, ha, hf, ho⟩ | ⟨h1, ha⟩
      · have d1 : ((X 0).1 == 1) = true := by rw [h1]; rfl
        have d3 : ((X 0).1 == 3) = false := by rw [h1]; rfl
        have EA : Hid (actI X 1 = actI X 0 + 1) := (by rw [HA.out, if_pos h1] : actI X 1 = actI X 0 + 1)
        have ED : Hid (dmpI X 1 = dmpI X 0) := (by rw [HD.out, if_neg (by omega), Int.add_zero] : dmpI X 1 = dmpI X 0)
        rw [ha] at q0
        rw [ho] at p0
        have ix' : ∀ w : World, (Instr.index 41 (.agg #[.int .i64 (X 0).1, .bool (X 0).2.1, .int .i64 (X 0).2.2, .int .i64 (X 1).1, .bool (X 1).2.1, .int .i64 (X 1).2.2, .int .i64 (X 2).1, .bool (X 2).2.1, .int .i64 (X 2).2.2, .int .i64 (X 3).1, .bool (X 3).2.1, .int .i64 (X 3).2.2]) (.int .i64 0)).run Try.prog w = .ok (.agg #[.int .i64 (X 0).1, .bool false, .int .i64 (X 0).2.2]) w := fun w => (ix0 w).trans (by rw [hf])
        have HG2 : Hid (LaneOk (X 0).1 false (X 0).2.2) := (by have h : LaneOk _ _ _ := HG.out; rw [hf] at h; exact h : LaneOk (X 0).1 false (X 0).2.2)
        clear h1 ha ho hf ix0
        go_wp2_with fail
        refine (laneCheck_yes _ _ _ _ HG2.out).mono ?_
        rintro e4 w4 ⟨rfl, rfl⟩
        go_wp2
        go_roundw
        case rel => exact ⟨1, by omega, rfl, by rw [EA.out], by rw [ED.out], by have hB := HB.out; repeat (first | with_reducible exact Below.refl _ _ | with_reducible exact hB | ((with_reducible refine Below.setCell ?_ ?_ _); rotate_left; (· first | (simp; done) | omega | (simp; omega))) | with_reducible refine below_drewN ?_ _ | with_reducible refine Below.drew ?_ | ((with_reducible refine Below.alloc ?_ ?_ _); rotate_left; (· first | (simp; done) | omega | (simp; omega))) | exact Below.refl _ _ | exact hB | refine Below.setCell ?_ (by first | (simp; done) | omega | (simp; omega)) _ | refine below_drewN ?_ _ | refine Below.drew ?_ | refine Below.alloc ?_ (by first | (simp; done) | omega | (simp; omega)) _)⟩
        case measure => simp [intOf]
      · have d1 : ((X 0).1 == 1) = false := beq_eq_false_iff_ne.2 h1
        have EA : Hid (actI X 1 = actI X 0) := (by rw [HA.out, if_neg h1, Int.add_zero] : actI X 1 = actI X 0)
        by_cases h3 : (X 0).1 = 3
        · have d3 : ((X 0).1 == 3) = true := by rw [h3]; rfl
          have ED : Hid (dmpI X 1 = dmpI X 0 + 1) := (by rw [HD.out, if_pos h3] : dmpI X 1 = dmpI X 0 + 1)
          rcases ha with ha | ⟨ha, hf⟩
          · rw [ha] at q0
            clear h1 ha h3
            go_wp2_with fail
            refine (laneCheck_yes _ _ _ _ HG.out).mono ?_
            rintro e4 w4 ⟨rfl, rfl⟩
            go_wp2
            go_roundw
            case rel => exact ⟨1, by omega, rfl, by rw [EA.out], by rw [ED.out], by have hB := HB.out; repeat (first | with_reducible exact Below.refl _ _ | with_reducible exact hB | ((with_reducible refine Below.setCell ?_ ?_ _); rotate_left; (· first | (simp; done) | omega | (simp; omega))) | with_reducible refine below_drewN ?_ _ | with_reducible refine Below.drew ?_ | ((with_reducible refine Below.alloc ?_ ?_ _); rotate_left; (· first | (simp; done) | omega | (simp; omega))) | exact Below.refl _ _ | exact hB | refine Below.setCell ?_ (by first | (simp; done) | omega | (simp; omega)) _ | refine below_drewN ?_ _ | refine Below.drew ?_ | refine Below.alloc ?_ (by first | (simp; done) | omega | (simp; omega)) _)⟩
            case measure => simp [intOf]
          · rw [ha] at q0
            have ix' : ∀ w : World, (Instr.index 41 (.agg #[.int .i64 (X 0).1, .bool (X 0).2.1, .int .i64 (X 0).2.2, .int .i64 (X 1).1, .bool (X 1).2.1, .int .i64 (X 1).2.2, .int .i64 (X 2).1, .bool (X 2).2.1, .int .i64 (X 2).2.2, .int .i64 (X 3).1, .bool (X 3).2.1, .int .i64 (X 3).2.2]) (.int .i64 0)).run Try.prog w = .ok (.agg #[.int .i64 (X 0).1, .bool true, .int .i64 (X 0).2.2]) w := fun w => (ix0 w).trans (by rw [hf])
            have HG2 : Hid (LaneOk (X 0).1 true (X 0).2.2) := (by have h : LaneOk _ _ _ := HG.out; rw [hf] at h; exact h : LaneOk (X 0).1 true (X 0).2.2)
            clear h1 ha h3 hf ix0
            go_wp2_with fail
            refine (laneCheck_yes _ _ _ _ HG2.out).mono ?_
            rintro e4 w4 ⟨rfl, rfl⟩
            go_wp2
            go_roundw
            case rel => exact ⟨1, by omega, rfl, by rw [EA.out], by rw [ED.out], by have hB := HB.out; repeat (first | with_reducible exact Below.refl _ _ | with_reducible exact hB | ((with_reducible refine Below.setCell ?_ ?_ _); rotate_left; (· first | (simp; done) | omega | (simp; omega))) | with_reducible refine below_drewN ?_ _ | with_reducible refine Below.drew ?_ | ((with_reducible refine Below.alloc ?_ ?_ _); rotate_left; (· first | (simp; done) | omega | (simp; omega))) | exact Below.refl _ _ | exact hB | refine Below.setCell ?_ (by first | (simp; done) | omega | (simp; omega)) _ | refine below_drewN ?_ _ | refine Below.drew ?_ | refine Below.alloc ?_ (by first | (simp; done) | omega | (simp; omega)) _)⟩
            case measure => simp [intOf]
        · have d3 : ((X 0).1 == 3) = false := beq_eq_false_iff_ne.2 h3
          have ED : Hid (dmpI X 1 = dmpI X 0) := (by rw [HD.out, if_neg h3, Int.add_zero] : dmpI X 1 = dmpI X 0)
          rcases ha with ha | ⟨ha, hf⟩
          · rw [ha] at q0
            clear h1 ha h3
            go_wp2_with fail
            refine (laneCheck_yes _ _ _ _ HG.out).mono ?_
            rintro e4 w4 ⟨rfl, rfl⟩
            go_wp2
            go_roundw
            case rel => exact ⟨1, by omega, rfl, by rw [EA.out], by rw [ED.out], by have hB := HB.out; repeat (first | with_reducible exact Below.refl _ _ | with_reducible exact hB | ((with_reducible refine Below.setCell ?_ ?_ _); rotate_left; (· first | (simp; done) | omega | (simp; omega))) | with_reducible refine below_drewN ?_ _ | with_reducible refine Below.drew ?_ | ((with_reducible refine Below.alloc ?_ ?_ _); rotate_left; (· first | (simp; done) | omega | (simp; omega))) | exact Below.refl _ _ | exact hB | refine Below.setCell ?_ (by first | (simp; done) | omega | (simp; omega)) _ | refine below_drewN ?_ _ | refine Below.drew ?_ | refine Below.alloc ?_ (by first | (simp; done) | omega | (simp; omega)) _)⟩
            case measure => simp [intOf]
          · rw [ha] at q0
            have ix' : ∀ w : World, (Instr.index 41 (.agg #[.int .i64 (X 0).1, .bool (X 0).2.1, .int .i64 (X 0).2.2, .int .i64 (X 1).1, .bool (X 1).2.1, .int .i64 (X 1).2.2, .int .i64 (X 2).1, .bool (X 2).2.1, .int .i64 (X 2).2.2, .int .i64 (X 3).1, .bool (X 3).2.1, .int .i64 (X 3).2.2]) (.int .i64 0)).run Try.prog w = .ok (.agg #[.int .i64 (X 0).1, .bool true, .int .i64 (X 0).2.2]) w := fun w => (ix0 w).trans (by rw [hf])
            have HG2 : Hid (LaneOk (X 0).1 true (X 0).2.2) := (by have h : LaneOk _ _ _ := HG.out; rw [hf] at h; exact h : LaneOk (X 0).1 true (X 0).2.2)
            clear h1 ha h3 hf ix0
            go_wp2_with fail
            refine (laneCheck_yes _ _ _ _ HG2.out).mono ?_
            rintro e4 w4 ⟨rfl, rfl⟩
            go_wp2
            go_roundw
            case rel => exact ⟨1, by omega, rfl, by rw [EA.out], by rw [ED.out], by have hB := HB.out; repeat (first | with_reducible exact Below.refl _ _ | with_reducible exact hB | ((with_reducible refine Below.setCell ?_ ?_ _); rotate_left; (· first | (simp; done) | omega | (simp; omega))) | with_reducible refine below_drewN ?_ _ | with_reducible refine Below.drew ?_ | ((with_reducible refine Below.alloc ?_ ?_ _); rotate_left; (· first | (simp; done) | omega | (simp; omega))) | exact Below.refl _ _ | exact hB | refine Below.setCell ?_ (by first | (simp; done) | omega | (simp; omega)) _ | refine below_drewN ?_ _ | refine Below.drew ?_ | refine Below.alloc ?_ (by first | (simp; done) | omega | (simp; omega)) _)⟩
            case measure => simp [intOf]
    · obtain ⟨g1, g2, g3⟩ := S1.out 1 (by omega)
      have ba := actI_bd X 1
      have bd := dmpI_bd X 1
      have HA : Hid (actI X 2 = actI X 1 + if (X 1).1 = 1 then 1 else 0) := (rfl : actI X 2 = actI X 1 + if (X 1).1 = 1 then 1 else 0)
      have HD : Hid (dmpI X 2 = dmpI X 1 + if (X 1).1 = 3 then 1 else 0) := (rfl : dmpI X 2 = dmpI X 1 + if (X 1).1 = 3 then 1 else 0)
      have HG := Lib.hid g1
      clear g1
      have hcase : ((X 1).1 = 1 ∧ a1 = false ∧ (X 1).2.1 = false ∧ o1 = true) ∨ ((X 1).1 ≠ 1 ∧ (a1 = false ∨ a1 = true ∧ (X 1).2.1 = true)) := by
        by_cases h1 : (X 1).1 = 1
        · have h2 := g3 h1
          have h3 : a1 = false := by
            cases hc : a1
            · rfl
            · have h4 := g2 hc
              rw [h2.1] at h4
              exact absurd h4 (by decide)
          exact .inl ⟨h1, h3, h2⟩
        · refine .inr ⟨h1, ?_⟩
          cases hc : a1
          · exact .inl rfl
          · exact .inr ⟨rfl, g2 hc⟩
      clear g2 g3
      rcases hcase with ⟨h1, ha, hf, ho⟩ | ⟨h1, ha⟩
      · have d1 : ((X 1).1 == 1) = true := by rw [h1]; rfl
        have d3 : ((X 1).1 == 3) = false := by rw [h1]; rfl
        have EA : Hid (actI X 2 = actI X 1 + 1) := (by rw [HA.out, if_pos h1] : actI X 2 = actI X 1 + 1)
        have ED : Hid (dmpI X 2 = dmpI X 1) := (by rw [HD.out, if_neg (by omega), Int.add_zero] : dmpI X 2 = dmpI X 1)
        rw [ha] at q1
        rw [ho] at p1
        have ix' : ∀ w : World, (Instr.index 41 (.agg #[.int .i64 (X 0).1, .bool (X 0).2.1, .int .i64 (X 0).2.2, .int .i64 (X 1).1, .bool (X 1).2.1, .int .i64 (X 1).2.2, .int .i64 (X 2).1, .bool (X 2).2.1, .int .i64 (X 2).2.2, .int .i64 (X 3).1, .bool (X 3).2.1, .int .i64 (X 3).2.2]) (.int .i64 1)).run Try.prog w = .ok (.agg #[.int .i64 (X 1).1, .bool false, .int .i64 (X 1).2.2]) w := fun w => (ix1 w).trans (by rw [hf])
        have HG2 : Hid (LaneOk (X 1).1 false (X 1).2.2) := (by have h : LaneOk _ _ _ := HG.out; rw [hf] at h; exact h : LaneOk (X 1).1 false (X 1).2.2)
        clear h1 ha ho hf ix1
        go_wp2_with fail
        refine (laneCheck_yes _ _ _ _ HG2.out).mono ?_
        rintro e4 w4 ⟨rfl, rfl⟩
        go_wp2
        go_roundw
        case rel => exact ⟨2, by omega, rfl, by rw [EA.out], by rw [ED.out], by have hB := HB.out; repeat (first | with_reducible exact Below.refl _ _ | with_reducible exact hB | ((with_reducible refine Below.setCell ?_ ?_ _); rotate_left; (· first | (simp; done) | omega | (simp; omega))) | with_reducible refine below_drewN ?_ _ | with_reducible refine Below.drew ?_ | ((with_reducible refine Below.alloc ?_ ?_ _); rotate_left; (· first | (simp; done) | omega | (simp; omega))) | exact Below.refl _ _ | exact hB | refine Below.setCell ?_ (by first | (simp; done) | omega | (simp; omega)) _ | refine below_drewN ?_ _ | refine Below.drew ?_ | refine Below.alloc ?_ (by first | (simp; done) | omega | (simp; omega)) _)⟩
        case measure => simp [intOf]
      · have d1 : ((X 1).1 == 1) = false := beq_eq_false_iff_ne.2 h1
        have EA : Hid (actI X 2 = actI X 1) := (by rw [HA.out, if_neg h1, Int.add_zero] : actI X 2 = actI X 1)
        by_cases h3 : (X 1).1 = 3
        · have d3 : ((X 1).1 == 3) = true := by rw [h3]; rfl
          have ED : Hid (dmpI X 2 = dmpI X 1 + 1) := (by rw [HD.out, if_pos h3] : dmpI X 2 = dmpI X 1 + 1)
          rcases ha with ha | ⟨ha, hf⟩
          · rw [ha] at q1
            clear h1 ha h3
            go_wp2_with fail
            refine (laneCheck_yes _ _ _ _ HG.out).mono ?_
            rintro e4 w4 ⟨rfl, rfl⟩
            go_wp2
            go_roundw
            case rel => exact ⟨2, by omega, rfl, by rw [EA.out], by rw [ED.out], by have hB := HB.out; repeat (first | with_reducible exact Below.refl _ _ | with_reducible exact hB | ((with_reducible refine Below.setCell ?_ ?_ _); rotate_left; (· first | (simp; done) | omega | (simp; omega))) | with_reducible refine below_drewN ?_ _ | with_reducible refine Below.drew ?_ | ((with_reducible refine Below.alloc ?_ ?_ _); rotate_left; (· first | (simp; done) | omega | (simp; omega))) | exact Below.refl _ _ | exact hB | refine Below.setCell ?_ (by first | (simp; done) | omega | (simp; omega)) _ | refine below_drewN ?_ _ | refine Below.drew ?_ | refine Below.alloc ?_ (by first | (simp; done) | omega | (simp; omega)) _)⟩
            case measure => simp [intOf]
          · rw [ha] at q1
            have ix' : ∀ w : World, (Instr.index 41 (.agg #[.int .i64 (X 0).1, .bool (X 0).2.1, .int .i64 (X 0).2.2, .int .i64 (X 1).1, .bool (X 1).2.1, .int .i64 (X 1).2.2, .int .i64 (X 2).1, .bool (X 2).2.1, .int .i64 (X 2).2.2, .int .i64 (X 3).1, .bool (X 3).2.1, .int .i64 (X 3).2.2]) (.int .i64 1)).run Try.prog w = .ok (.agg #[.int .i64 (X 1).1, .bool true, .int .i64 (X 1).2.2]) w := fun w => (ix1 w).trans (by rw [hf])
            have HG2 : Hid (LaneOk (X 1).1 true (X 1).2.2) := (by have h : LaneOk _ _ _ := HG.out; rw [hf] at h; exact h : LaneOk (X 1).1 true (X 1).2.2)
            clear h1 ha h3 hf ix1
            go_wp2_with fail
            refine (laneCheck_yes _ _ _ _ HG2.out).mono ?_
            rintro e4 w4 ⟨rfl, rfl⟩
            go_wp2
            go_roundw
            case rel => exact ⟨2, by omega, rfl, by rw [EA.out], by rw [ED.out], by have hB := HB.out; repeat (first | with_reducible exact Below.refl _ _ | with_reducible exact hB | ((with_reducible refine Below.setCell ?_ ?_ _); rotate_left; (· first | (simp; done) | omega | (simp; omega))) | with_reducible refine below_drewN ?_ _ | with_reducible refine Below.drew ?_ | ((with_reducible refine Below.alloc ?_ ?_ _); rotate_left; (· first | (simp; done) | omega | (simp; omega))) | exact Below.refl _ _ | exact hB | refine Below.setCell ?_ (by first | (simp; done) | omega | (simp; omega)) _ | refine below_drewN ?_ _ | refine Below.drew ?_ | refine Below.alloc ?_ (by first | (simp; done) | omega | (simp; omega)) _)⟩
            case measure => simp [intOf]
        · have d3 : ((X 1).1 == 3) = false := beq_eq_false_iff_ne.2 h3
          have ED : Hid (dmpI X 2 = dmpI X 1) := (by rw [HD.out, if_neg h3, Int.add_zero] : dmpI X 2 = dmpI X 1)
          rcases ha with ha | ⟨ha, hf⟩
          · rw [ha] at q1
            clear h1 ha h3
            go_wp2_with fail
            refine (laneCheck_yes _ _ _ _ HG.out).mono ?_
            rintro e4 w4 ⟨rfl, rfl⟩
            go_wp2
            go_roundw
            case rel => exact ⟨2, by omega, rfl, by rw [EA.out], by rw [ED.out], by have hB := HB.out; repeat (first | with_reducible exact Below.refl _ _ | with_reducible exact hB | ((with_reducible refine Below.setCell ?_ ?_ _); rotate_left; (· first | (simp; done) | omega | (simp; omega))) | with_reducible refine below_drewN ?_ _ | with_reducible refine Below.drew ?_ | ((with_reducible refine Below.alloc ?_ ?_ _); rotate_left; (· first | (simp; done) | omega | (simp; omega))) | exact Below.refl _ _ | exact hB | refine Below.setCell ?_ (by first | (simp; done) | omega | (simp; omega)) _ | refine below_drewN ?_ _ | refine Below.drew ?_ | refine Below.alloc ?_ (by first | (simp; done) | omega | (simp; omega)) _)⟩
            case measure => simp [intOf]
          · rw [ha] at q1
            have ix' : ∀ w : World, (Instr.index 41 (.agg #[.int .i64 (X 0).1, .bool (X 0).2.1, .int .i64 (X 0).2.2, .int .i64 (X 1).1, .bool (X 1).2.1, .int .i64 (X 1).2.2, .int .i64 (X 2).1, .bool (X 2).2.1, .int .i64 (X 2).2.2, .int .i64 (X 3).1, .bool (X 3).2.1, .int .i64 (X 3).2.2]) (.int .i64 1)).run Try.prog w = .ok (.agg #[.int .i64 (X 1).1, .bool true, .int .i64 (X 1).2.2]) w := fun w => (ix1 w).trans (by rw [hf])
            have HG2 : Hid (LaneOk (X 1).1 true (X 1).2.2) := (by have h : LaneOk _ _ _ := HG.out; rw [hf] at h; exact h : LaneOk (X 1).1 true (X 1).2.2)
            clear h1 ha h3 hf ix1
            go_wp2_with fail
            refine (laneCheck_yes _ _ _ _ HG2.out).mono ?_
            rintro e4 w4 ⟨rfl, rfl⟩
            go_wp2
            go_roundw
            case rel => exact ⟨2, by omega, rfl, by rw [EA.out], by rw [ED.out], by have hB := HB.out; repeat (first | with_reducible exact Below.refl _ _ | with_reducible exact hB | ((with_reducible refine Below.setCell ?_ ?_ _); rotate_left; (· first | (simp; done) | omega | (simp; omega))) | with_reducible refine below_drewN ?_ _ | with_reducible refine Below.drew ?_ | ((with_reducible refine Below.alloc ?_ ?_ _); rotate_left; (· first | (simp; done) | omega | (simp; omega))) | exact Below.refl _ _ | exact hB | refine Below.setCell ?_ (by first | (simp; done) | omega | (simp; omega)) _ | refine below_drewN ?_ _ | refine Below.drew ?_ | refine Below.alloc ?_ (by first | (simp; done) | omega | (simp; omega)) _)⟩
            case measure => simp [intOf]
    · obtain ⟨g1, g2, g3⟩ := S1.out 2 (by omega)
      have ba := actI_bd X 2
      have bd := dmpI_bd X 2
      have HA : Hid (actI X 3 = actI X 2 + if (X 2).1 = 1 then 1 else 0) := (rfl : actI X 3 = actI X 2 + if (X 2).1 = 1 then 1 else 0)
      have HD : Hid (dmpI X 3 = dmpI X 2 + if (X 2).1 = 3 then 1 else 0) := (rfl : dmpI X 3 = dmpI X 2 + if (X 2).1 = 3 then 1 else 0)
      have HG := Lib.hid g1
      clear g1
      have hcase : ((X 2).1 = 1 ∧ a2 = false ∧ (X 2).2.1 = false ∧ o2 = true) ∨ ((X 2).1 ≠ 1 ∧ (a2 = false ∨ a2 = true ∧ (X 2).2.1 = true)) := by
        by_cases h1 : (X 2).1 = 1
        · have h2 := g3 h1
          have h3 : a2 = false := by
            cases hc : a2
            · rfl
            · have h4 := g2 hc
              rw [h2.1] at h4
              exact absurd h4 (by decide)
          exact .inl ⟨h1, h3, h2⟩
        · refine .inr ⟨h1, ?_⟩
          cases hc : a2
          · exact .inl rfl
          · exact .inr ⟨rfl, g2 hc⟩
      clear g2 g3
      rcases hcase with ⟨h1, ha, hf, ho⟩ | ⟨h1, ha⟩
      · have d1 : ((X 2).1 == 1) = true := by rw [h1]; rfl
        have d3 : ((X 2).1 == 3) = false := by rw [h1]; rfl
        have EA : Hid (actI X 3 = actI X 2 + 1) := (by rw [HA.out, if_pos h1] : actI X 3 = actI X 2 + 1)
        have ED : Hid (dmpI X 3 = dmpI X 2) := (by rw [HD.out, if_neg (by omega), Int.add_zero] : dmpI X 3 = dmpI X 2)
        rw [ha] at q2
        rw [ho] at p2
        have ix' : ∀ w : World, (Instr.index 41 (.agg #[.int .i64 (X 0).1, .bool (X 0).2.1, .int .i64 (X 0).2.2, .int .i64 (X 1).1, .bool (X 1).2.1, .int .i64 (X 1).2.2, .int .i64 (X 2).1, .bool (X 2).2.1, .int .i64 (X 2).2.2, .int .i64 (X 3).1, .bool (X 3).2.1, .int .i64 (X 3).2.2]) (.int .i64 2)).run Try.prog w = .ok (.agg #[.int .i64 (X 2).1, .bool false, .int .i64 (X 2).2.2]) w := fun w => (ix2 w).trans (by rw [hf])
        have HG2 : Hid (LaneOk (X 2).1 false (X 2).2.2) := (by have h : LaneOk _ _ _ := HG.out; rw [hf] at h; exact h : LaneOk (X 2).1 false (X 2).2.2)
        clear h1 ha ho hf ix2
        go_wp2_with fail
        refine (laneCheck_yes _ _ _ _ HG2.out).mono ?_
        rintro e4 w4 ⟨rfl, rfl⟩
        go_wp2
        go_roundw
        case rel => exact ⟨3, by omega, rfl, by rw [EA.out], by rw [ED.out], by have hB := HB.out; repeat (first | with_reducible exact Below.refl _ _ | with_reducible exact hB | ((with_reducible refine Below.setCell ?_ ?_ _); rotate_left; (· first | (simp; done) | omega | (simp; omega))) | with_reducible refine below_drewN ?_ _ | with_reducible refine Below.drew ?_ | ((with_reducible refine Below.alloc ?_ ?_ _); rotate_left; (· first | (simp; done) | omega | (simp; omega))) | exact Below.refl _ _ | exact hB | refine Below.setCell ?_ (by first | (simp; done) | omega | (simp; omega)) _ | refine below_drewN ?_ _ | refine Below.drew ?_ | refine Below.alloc ?_ (by first | (simp; done) | omega | (simp; omega)) _)⟩
        case measure => simp [intOf]
      · have d1 : ((X 2).1 == 1) = false := beq_eq_false_iff_ne.2 h1
        have EA : Hid (actI X 3 = actI X 2) := (by rw [HA.out, if_neg h1, Int.add_zero] : actI X 3 = actI X 2)
        by_cases h3 : (X 2).1 = 3
        · have d3 : ((X 2).1 == 3) = true := by rw [h3]; rfl
          have ED : Hid (dmpI X 3 = dmpI X 2 + 1) := (by rw [HD.out, if_pos h3] : dmpI X 3 = dmpI X 2 + 1)
          rcases ha with ha | ⟨ha, hf⟩
          · rw [ha] at q2
            clear h1 ha h3
            go_wp2_with fail
            refine (laneCheck_yes _ _ _ _ HG.out).mono ?_
            rintro e4 w4 ⟨rfl, rfl⟩
            go_wp2
            go_roundw
            case rel => exact ⟨3, by omega, rfl, by rw [EA.out], by rw [ED.out], by have hB := HB.out; repeat (first | with_reducible exact Below.refl _ _ | with_reducible exact hB | ((with_reducible refine Below.setCell ?_ ?_ _); rotate_left; (· first | (simp; done) | omega | (simp; omega))) | with_reducible refine below_drewN ?_ _ | with_reducible refine Below.drew ?_ | ((with_reducible refine Below.alloc ?_ ?_ _); rotate_left; (· first | (simp; done) | omega | (simp; omega))) | exact Below.refl _ _ | exact hB | refine Below.setCell ?_ (by first | (simp; done) | omega | (simp; omega)) _ | refine below_drewN ?_ _ | refine Below.drew ?_ | refine Below.alloc ?_ (by first | (simp; done) | omega | (simp; omega)) _)⟩
            case measure => simp [intOf]
          · rw [ha] at q2
            have ix' : ∀ w : World, (Instr.index 41 (.agg #[.int .i64 (X 0).1, .bool (X 0).2.1, .int .i64 (X 0).2.2, .int .i64 (X 1).1, .bool (X 1).2.1, .int .i64 (X 1).2.2, .int .i64 (X 2).1, .bool (X 2).2.1, .int .i64 (X 2).2.2, .int .i64 (X 3).1, .bool (X 3).2.1, .int .i64 (X 3).2.2]) (.int .i64 2)).run Try.prog w = .ok (.agg #[.int .i64 (X 2).1, .bool true, .int .i64 (X 2).2.2]) w := fun w => (ix2 w).trans (by rw [hf])
            have HG2 : Hid (LaneOk (X 2).1 true (X 2).2.2) := (by have h : LaneOk _ _ _ := HG.out; rw [hf] at h; exact h : LaneOk (X 2).1 true (X 2).2.2)
            clear h1 ha h3 hf ix2
            go_wp2_with fail
            refine (laneCheck_yes _ _ _ _ HG2.out).mono ?_
            rintro e4 w4 ⟨rfl, rfl⟩
            go_wp2
            go_roundw
            case rel => exact ⟨3, by omega, rfl, by rw [EA.out], by rw [ED.out], by have hB := HB.out; repeat (first | with_reducible exact Below.refl _ _ | with_reducible exact hB | ((with_reducible refine Below.setCell ?_ ?_ _); rotate_left; (· first | (simp; done) | omega | (simp; omega))) | with_reducible refine below_drewN ?_ _ | with_reducible refine Below.drew ?_ | ((with_reducible refine Below.alloc ?_ ?_ _); rotate_left; (· first | (simp; done) | omega | (simp; omega))) | exact Below.refl _ _ | exact hB | refine Below.setCell ?_ (by first | (simp; done) | omega | (simp; omega)) _ | refine below_drewN ?_ _ | refine Below.drew ?_ | refine Below.alloc ?_ (by first | (simp; done) | omega | (simp; omega)) _)⟩
            case measure => simp [intOf]
        · have d3 : ((X 2).1 == 3) = false := beq_eq_false_iff_ne.2 h3
          have ED : Hid (dmpI X 3 = dmpI X 2) := (by rw [HD.out, if_neg h3, Int.add_zero] : dmpI X 3 = dmpI X 2)
          rcases ha with ha | ⟨ha, hf⟩
          · rw [ha] at q2
            clear h1 ha h3
            go_wp2_with fail
            refine (laneCheck_yes _ _ _ _ HG.out).mono ?_
            rintro e4 w4 ⟨rfl, rfl⟩
            go_wp2
            go_roundw
            case rel => exact ⟨3, by omega, rfl, by rw [EA.out], by rw [ED.out], by have hB := HB.out; repeat (first | with_reducible exact Below.refl _ _ | with_reducible exact hB | ((with_reducible refine Below.setCell ?_ ?_ _); rotate_left; (· first | (simp; done) | omega | (simp; omega))) | with_reducible refine below_drewN ?_ _ | with_reducible refine Below.drew ?_ | ((with_reducible refine Below.alloc ?_ ?_ _); rotate_left; (· first | (simp; done) | omega | (simp; omega))) | exact Below.refl _ _ | exact hB | refine Below.setCell ?_ (by first | (simp; done) | omega | (simp; omega)) _ | refine below_drewN ?_ _ | refine Below.drew ?_ | refine Below.alloc ?_ (by first | (simp; done) | omega | (simp; omega)) _)⟩
            case measure => simp [intOf]
          · rw [ha] at q2
            have ix' : ∀ w : World, (Instr.index 41 (.agg #[.int .i64 (X 0).1, .bool (X 0).2.1, .int .i64 (X 0).2.2, .int .i64 (X 1).1, .bool (X 1).2.1, .int .i64 (X 1).2.2, .int .i64 (X 2).1, .bool (X 2).2.1, .int .i64 (X 2).2.2, .int .i64 (X 3).1, .bool (X 3).2.1, .int .i64 (X 3).2.2]) (.int .i64 2)).run Try.prog w = .ok (.agg #[.int .i64 (X 2).1, .bool true, .int .i64 (X 2).2.2]) w := fun w => (ix2 w).trans (by rw [hf])
            have HG2 : Hid (LaneOk (X 2).1 true (X 2).2.2) := (by have h : LaneOk _ _ _ := HG.out; rw [hf] at h; exact h : LaneOk (X 2).1 true (X 2).2.2)
            clear h1 ha h3 hf ix2
            go_wp2_with fail
            refine (laneCheck_yes _ _ _ _ HG2.out).mono ?_
            rintro e4 w4 ⟨rfl, rfl⟩
            go_wp2
            go_roundw
            case rel => exact ⟨3, by omega, rfl, by rw [EA.out], by rw [ED.out], by have hB := HB.out; repeat (first | with_reducible exact Below.refl _ _ | with_reducible exact hB | ((with_reducible refine Below.setCell ?_ ?_ _); rotate_left; (· first | (simp; done) | omega | (simp; omega))) | with_reducible refine below_drewN ?_ _ | with_reducible refine Below.drew ?_ | ((with_reducible refine Below.alloc ?_ ?_ _); rotate_left; (· first | (simp; done) | omega | (simp; omega))) | exact Below.refl _ _ | exact hB | refine Below.setCell ?_ (by first | (simp; done) | omega | (simp; omega)) _ | refine below_drewN ?_ _ | refine Below.drew ?_ | refine Below.alloc ?_ (by first | (simp; done) | omega | (simp; omega)) _)⟩
            case measure => simp [intOf]
    · obtain ⟨g1, g2, g3⟩ := S1.out 3 (by omega)
      have ba := actI_bd X 3
      have bd := dmpI_bd X 3
      have HA : Hid (actI X 4 = actI X 3 + if (X 3).1 = 1 then 1 else 0) := (rfl : actI X 4 = actI X 3 + if (X 3).1 = 1 then 1 else 0)
      have HD : Hid (dmpI X 4 = dmpI X 3 + if (X 3).1 = 3 then 1 else 0) := (rfl : dmpI X 4 = dmpI X 3 + if (X 3).1 = 3 then 1 else 0)
      have HG := Lib.hid g1
      clear g1
      have hcase : ((X 3).1 = 1 ∧ a3 = false ∧ (X 3).2.1 = false ∧ o3 = true) ∨ ((X 3).1 ≠ 1 ∧ (a3 = false ∨ a3 = true ∧ (X 3).2.1 = true)) := by
        by_cases h1 : (X 3).1 = 1
        · have h2 := g3 h1
          have h3 : a3 = false := by
            cases hc : a3
            · rfl
            · have h4 := g2 hc
              rw [h2.1] at h4
              exact absurd h4 (by decide)
          exact .inl ⟨h1, h3, h2⟩
        · refine .inr ⟨h1, ?_⟩
          cases hc : a3
          · exact .inl rfl
          · exact .inr ⟨rfl, g2 hc⟩
      clear g2 g3
      rcases hcase with ⟨h1, ha, hf, ho⟩ | ⟨h1, ha⟩
      · have d1 : ((X 3).1 == 1) = true := by rw [h1]; rfl
        have d3 : ((X 3).1 == 3) = false := by rw [h1]; rfl
        have EA : Hid (actI X 4 = actI X 3 + 1) := (by rw [HA.out, if_pos h1] : actI X 4 = actI X 3 + 1)
        have ED : Hid (dmpI X 4 = dmpI X 3) := (by rw [HD.out, if_neg (by omega), Int.add_zero] : dmpI X 4 = dmpI X 3)
        rw [ha] at q3
        rw [ho] at p3
        have ix' : ∀ w : World, (Instr.index 41 (.agg #[.int .i64 (X 0).1, .bool (X 0).2.1, .int .i64 (X 0).2.2, .int .i64 (X 1).1, .bool (X 1).2.1, .int .i64 (X 1).2.2, .int .i64 (X 2).1, .bool (X 2).2.1, .int .i64 (X 2).2.2, .int .i64 (X 3).1, .bool (X 3).2.1, .int .i64 (X 3).2.2]) (.int .i64 3)).run Try.prog w = .ok (.agg #[.int .i64 (X 3).1, .bool false, .int .i64 (X 3).2.2]) w := fun w => (ix3 w).trans (by rw [hf])
        have HG2 : Hid (LaneOk (X 3).1 false (X 3).2.2) := (by have h : LaneOk _ _ _ := HG.out; rw [hf] at h; exact h : LaneOk (X 3).1 false (X 3).2.2)
        clear h1 ha ho hf ix3
        go_wp2_with fail
        refine (laneCheck_yes _ _ _ _ HG2.out).mono ?_
        rintro e4 w4 ⟨rfl, rfl⟩
        go_wp2
        go_roundw
        case rel => exact ⟨4, by omega, rfl, by rw [EA.out], by rw [ED.out], by have hB := HB.out; repeat (first | with_reducible exact Below.refl _ _ | with_reducible exact hB | ((with_reducible refine Below.setCell ?_ ?_ _); rotate_left; (· first | (simp; done) | omega | (simp; omega))) | with_reducible refine below_drewN ?_ _ | with_reducible refine Below.drew ?_ | ((with_reducible refine Below.alloc ?_ ?_ _); rotate_left; (· first | (simp; done) | omega | (simp; omega))) | exact Below.refl _ _ | exact hB | refine Below.setCell ?_ (by first | (simp; done) | omega | (simp; omega)) _ | refine below_drewN ?_ _ | refine Below.drew ?_ | refine Below.alloc ?_ (by first | (simp; done) | omega | (simp; omega)) _)⟩
        case measure => simp [intOf]
      · have d1 : ((X 3).1 == 1) = false := beq_eq_false_iff_ne.2 h1
        have EA : Hid (actI X 4 = actI X 3) := (by rw [HA.out, if_neg h1, Int.add_zero] : actI X 4 = actI X 3)
        by_cases h3 : (X 3).1 = 3
        · have d3 : ((X 3).1 == 3) = true := by rw [h3]; rfl
          have ED : Hid (dmpI X 4 = dmpI X 3 + 1) := (by rw [HD.out, if_pos h3] : dmpI X 4 = dmpI X 3 + 1)
          rcases ha with ha | ⟨ha, hf⟩
          · rw [ha] at q3
            clear h1 ha h3
            go_wp2_with fail
            refine (laneCheck_yes _ _ _ _ HG.out).mono ?_
            rintro e4 w4 ⟨rfl, rfl⟩
            go_wp2
            go_roundw
            case rel => exact ⟨4, by omega, rfl, by rw [EA.out], by rw [ED.out], by have hB := HB.out; repeat (first | with_reducible exact Below.refl _ _ | with_reducible exact hB | ((with_reducible refine Below.setCell ?_ ?_ _); rotate_left; (· first | (simp; done) | omega | (simp; omega))) | with_reducible refine below_drewN ?_ _ | with_reducible refine Below.drew ?_ | ((with_reducible refine Below.alloc ?_ ?_ _); rotate_left; (· first | (simp; done) | omega | (simp; omega))) | exact Below.refl _ _ | exact hB | refine Below.setCell ?_ (by first | (simp; done) | omega | (simp; omega)) _ | refine below_drewN ?_ _ | refine Below.drew ?_ | refine Below.alloc ?_ (by first | (simp; done) | omega | (simp; omega)) _)⟩
            case measure => simp [intOf]
          · rw [ha] at q3
            have ix' : ∀ w : World, (Instr.index 41 (.agg #[.int .i64 (X 0).1, .bool (X 0).2.1, .int .i64 (X 0).2.2, .int .i64 (X 1).1, .bool (X 1).2.1, .int .i64 (X 1).2.2, .int .i64 (X 2).1, .bool (X 2).2.1, .int .i64 (X 2).2.2, .int .i64 (X 3).1, .bool (X 3).2.1, .int .i64 (X 3).2.2]) (.int .i64 3)).run Try.prog w = .ok (.agg #[.int .i64 (X 3).1, .bool true, .int .i64 (X 3).2.2]) w := fun w => (ix3 w).trans (by rw [hf])
            have HG2 : Hid (LaneOk (X 3).1 true (X 3).2.2) := (by have h : LaneOk _ _ _ := HG.out; rw [hf] at h; exact h : LaneOk (X 3).1 true (X 3).2.2)
            clear h1 ha h3 hf ix3
            go_wp2_with fail
            refine (laneCheck_yes _ _ _ _ HG2.out).mono ?_
            rintro e4 w4 ⟨rfl, rfl⟩
            go_wp2
            go_roundw
            case rel => exact ⟨4, by omega, rfl, by rw [EA.out], by rw [ED.out], by have hB := HB.out; repeat (first | with_reducible exact Below.refl _ _ | with_reducible exact hB | ((with_reducible refine Below.setCell ?_ ?_ _); rotate_left; (· first | (simp; done) | omega | (simp; omega))) | with_reducible refine below_drewN ?_ _ | with_reducible refine Below.drew ?_ | ((with_reducible refine Below.alloc ?_ ?_ _); rotate_left; (· first | (simp; done) | omega | (simp; omega))) | exact Below.refl _ _ | exact hB | refine Below.setCell ?_ (by first | (simp; done) | omega | (simp; omega)) _ | refine below_drewN ?_ _ | refine Below.drew ?_ | refine Below.alloc ?_ (by first | (simp; done) | omega | (simp; omega)) _)⟩
            case measure => simp [intOf]
        · have d3 : ((X 3).1 == 3) = false := beq_eq_false_iff_ne.2 h3
          have ED : Hid (dmpI X 4 = dmpI X 3) := (by rw [HD.out, if_neg h3, Int.add_zero] : dmpI X 4 = dmpI X 3)
          rcases ha with ha | ⟨ha, hf⟩
          · rw [ha] at q3
            clear h1 ha h3
            go_wp2_with fail
            refine (laneCheck_yes _ _ _ _ HG.out).mono ?_
            rintro e4 w4 ⟨rfl, rfl⟩
            go_wp2
            go_roundw
            case rel => exact ⟨4, by omega, rfl, by rw [EA.out], by rw [ED.out], by have hB := HB.out; repeat (first | with_reducible exact Below.refl _ _ | with_reducible exact hB | ((with_reducible refine Below.setCell ?_ ?_ _); rotate_left; (· first | (simp; done) | omega | (simp; omega))) | with_reducible refine below_drewN ?_ _ | with_reducible refine Below.drew ?_ | ((with_reducible refine Below.alloc ?_ ?_ _); rotate_left; (· first | (simp; done) | omega | (simp; omega))) | exact Below.refl _ _ | exact hB | refine Below.setCell ?_ (by first | (simp; done) | omega | (simp; omega)) _ | refine below_drewN ?_ _ | refine Below.drew ?_ | refine Below.alloc ?_ (by first | (simp; done) | omega | (simp; omega)) _)⟩
            case measure => simp [intOf]
          · rw [ha] at q3
            have ix' : ∀ w : World, (Instr.index 41 (.agg #[.int .i64 (X 0).1, .bool (X 0).2.1, .int .i64 (X 0).2.2, .int .i64 (X 1).1, .bool (X 1).2.1, .int .i64 (X 1).2.2, .int .i64 (X 2).1, .bool (X 2).2.1, .int .i64 (X 2).2.2, .int .i64 (X 3).1, .bool (X 3).2.1, .int .i64 (X 3).2.2]) (.int .i64 3)).run Try.prog w = .ok (.agg #[.int .i64 (X 3).1, .bool true, .int .i64 (X 3).2.2]) w := fun w => (ix3 w).trans (by rw [hf])
            have HG2 : Hid (LaneOk (X 3).1 true (X 3).2.2) := (by have h : LaneOk _ _ _ := HG.out; rw [hf] at h; exact h : LaneOk (X 3).1 true (X 3).2.2)
            clear h1 ha h3 hf ix3
            go_wp2_with fail
            refine (laneCheck_yes _ _ _ _ HG2.out).mono ?_
            rintro e4 w4 ⟨rfl, rfl⟩
            go_wp2
            go_roundw
            case rel => exact ⟨4, by omega, rfl, by rw [EA.out], by rw [ED.out], by have hB := HB.out; repeat (first | with_reducible exact Below.refl _ _ | with_reducible exact hB | ((with_reducible refine Below.setCell ?_ ?_ _); rotate_left; (· first | (simp; done) | omega | (simp; omega))) | with_reducible refine below_drewN ?_ _ | with_reducible refine Below.drew ?_ | ((with_reducible refine Below.alloc ?_ ?_ _); rotate_left; (· first | (simp; done) | omega | (simp; omega))) | exact Below.refl _ _ | exact hB | refine Below.setCell ?_ (by first | (simp; done) | omega | (simp; omega)) _ | refine below_drewN ?_ _ | refine Below.drew ?_ | refine Below.alloc ?_ (by first | (simp; done) | omega | (simp; omega)) _)⟩
            case measure => simp [intOf]
    · have BW : Below w.heap.size w wr := HW.out.2.trans (HB.out.mono HW.out.2.size)
      rcases S4.out with ⟨rfl, rfl, hA, hD⟩ | ⟨hn, rfl, hA, hD⟩
      · rw [hA] at y1
        rw [hA, hD]
        clear hA hD
        go_wp2
        go_ret
        exact ⟨ret_bool (by first | rfl | (simp; done)), BW⟩
      · have h4 : (n = 1 ∧ min 2 n = 1) ∨ (n = 2 ∧ min 2 n = 2) ∨ (n = 3 ∧ min 2 n = 2) ∨ (n = 4 ∧ min 2 n = 2) := by omega
        rcases h4 with ⟨h4, h5⟩ | ⟨h4, h5⟩ | ⟨h4, h5⟩ | ⟨h4, h5⟩ <;> (rw [h5] at hA; subst h4; rw [hA] at y1; rw [hA, hD]; clear hA hD h5 hn)
        all_goals
          go_wp2
          go_ret
          exact ⟨ret_bool (by first | rfl | (simp; done)), BW⟩
set_option maxHeartbeats 8000000 in
set_option maxRecDepth 100000 in
theorem no (T : Team) (o0 o1 o2 o3 a0 a1 a2 a3 : Bool) (w : World) (hb : ∀ j, j < 4 → (-9223372036854775808 ≤ (T j).1 ∧ (T j).1 ≤ 9223372036854775807) ∧ -9223372036854775808 ≤ (T j).2.2 ∧ (T j).2.2 ≤ 9223372036854775807)
    (hno : ¬ ∀ j, j < 4 → OkS (T j)) :
    Calls Try.prog 6 #[teamV T, .agg #[.bool o0, .bool o1, .bool o2, .bool o3], .agg #[.bool a0, .bool a1, .bool a2, .bool a3]] w fun e w' => e = .returned (.bool true) ∧ Below w.heap.size w w' := by
  have HB := Lib.hid hb; have HNO := Lib.hid hno
  obtain ⟨X0, hX0⟩ : ∃ X0, planT (fun _ => (0, false, 0)) (sel4 true false false false) (sel4 true true true true) = X0 := ⟨_, rfl⟩
  have K0 : Hid (planT (fun _ => (0, false, 0)) (sel4 true false false false) (sel4 true true true true) = X0 ∧ ((planU (fun _ => (0, false, 0)) (sel4 true false false false) (sel4 true true true true)).length : Int) = 3 ∧ actI (planC (fun _ => (0, false, 0)) (sel4 true false false false) (sel4 true true true true)) 4 = 2 ∧ ((3 : Int) == 0) = false) := (⟨hX0, rfl, rfl, rfl⟩ : _ ∧ _ ∧ _ ∧ _)
  have hf := first_is
  rw [hX0] at hf
  have f0 : ((X0 0).1 != 2) = false := by rw [hf.1]; rfl
  have f1 : ((X0 1).1 != 1) = false := by rw [hf.2]; rfl
  have eq0 : ∀ w : World, (Op.equalIn 10000 41 (.agg #[.int .i64 0, .bool false, .int .i64 0, .int .i64 0, .bool false, .int .i64 0, .int .i64 0, .bool false, .int .i64 0, .int .i64 0, .bool false, .int .i64 0]) (.agg #[.int .i64 0, .bool false, .int .i64 0, .int .i64 0, .bool false, .int .i64 0, .int .i64 0, .bool false, .int .i64 0, .int .i64 0, .bool false, .int .i64 0])).run Try.prog w = .ok true w := fun _ => by kernel_rfl
  clear hb hno hX0 hf
  go_enter Try.func6, Try.ntmps6
  go_wp2_with fail
  refine (plan_is (fun _ => (0, false, 0)) true true true true true false false false _ zero_ok _ _ _ _ K0.out).mono ?_
  rintro e1 w1 ⟨rfl, hb1⟩
  have z1 := hb1.size
  simp at z1
  have B1 : Below w.heap.size w w1 := by repeat (first | with_reducible exact Below.refl _ _ | ((with_reducible refine Below.setCell ?_ ?_ _); rotate_left; (· first | (simp; done) | omega | (simp; omega))) | with_reducible refine below_drewN ?_ _ | with_reducible refine Below.drew ?_ | ((with_reducible refine Below.trans ?_ (Below.mono hb1 ?_)); rotate_left; (· first | (simp; done) | omega | (simp; omega))) | ((with_reducible refine Below.alloc ?_ ?_ _); rotate_left; (· first | (simp; done) | omega | (simp; omega))) | exact Below.refl _ _ | refine Below.setCell ?_ (by first | (simp; done) | omega | (simp; omega)) _ | refine below_drewN ?_ _ | refine Below.drew ?_ | refine Below.trans ?_ (Below.mono hb1 (by first | (simp; done) | omega | (simp; omega))) | refine Below.alloc ?_ (by first | (simp; done) | omega | (simp; omega)) _)
  obtain ⟨chb, fhb⟩ := Open.bcell hb1
  have t0 : w1.cell? ⟨w.heap.size, 0, none⟩ = some (.int .i64 (T 0).1) := by rw [chb _ _ (by first | (simp; done) | omega | (simp; omega))]; go_simp
  have t1 : w1.cell? ⟨w.heap.size, 1, none⟩ = some (.bool (T 0).2.1) := by rw [chb _ _ (by first | (simp; done) | omega | (simp; omega))]; go_simp
  have t2 : w1.cell? ⟨w.heap.size, 2, none⟩ = some (.int .i64 (T 0).2.2) := by rw [chb _ _ (by first | (simp; done) | omega | (simp; omega))]; go_simp
  have t3 : w1.cell? ⟨w.heap.size, 3, none⟩ = some (.int .i64 (T 1).1) := by rw [chb _ _ (by first | (simp; done) | omega | (simp; omega))]; go_simp
  have t4 : w1.cell? ⟨w.heap.size, 4, none⟩ = some (.bool (T 1).2.1) := by rw [chb _ _ (by first | (simp; done) | omega | (simp; omega))]; go_simp
  have t5 : w1.cell? ⟨w.heap.size, 5, none⟩ = some (.int .i64 (T 1).2.2) := by rw [chb _ _ (by first | (simp; done) | omega | (simp; omega))]; go_simp
  have t6 : w1.cell? ⟨w.heap.size, 6, none⟩ = some (.int .i64 (T 2).1) := by rw [chb _ _ (by first | (simp; done) | omega | (simp; omega))]; go_simp
  have t7 : w1.cell? ⟨w.heap.size, 7, none⟩ = some (.bool (T 2).2.1) := by rw [chb _ _ (by first | (simp; done) | omega | (simp; omega))]; go_simp
  have t8 : w1.cell? ⟨w.heap.size, 8, none⟩ = some (.int .i64 (T 2).2.2) := by rw [chb _ _ (by first | (simp; done) | omega | (simp; omega))]; go_simp
  have t9 : w1.cell? ⟨w.heap.size, 9, none⟩ = some (.int .i64 (T 3).1) := by rw [chb _ _ (by first | (simp; done) | omega | (simp; omega))]; go_simp
  have t10 : w1.cell? ⟨w.heap.size, 10, none⟩ = some (.bool (T 3).2.1) := by rw [chb _ _ (by first | (simp; done) | omega | (simp; omega))]; go_simp
  have t11 : w1.cell? ⟨w.heap.size, 11, none⟩ = some (.int .i64 (T 3).2.2) := by rw [chb _ _ (by first | (simp; done) | omega | (simp; omega))]; go_simp
  have p0 : w1.cell? ⟨w.heap.size + 1, 0, none⟩ = some (.bool o0) := by rw [chb _ _ (by first | (simp; done) | omega | (simp; omega))]; go_simp
  have p1 : w1.cell? ⟨w.heap.size + 1, 1, none⟩ = some (.bool o1) := by rw [chb _ _ (by first | (simp; done) | omega | (simp; omega))]; go_simp
  have p2 : w1.cell? ⟨w.heap.size + 1, 2, none⟩ = some (.bool o2) := by rw [chb _ _ (by first | (simp; done) | omega | (simp; omega))]; go_simp
  have p3 : w1.cell? ⟨w.heap.size + 1, 3, none⟩ = some (.bool o3) := by rw [chb _ _ (by first | (simp; done) | omega | (simp; omega))]; go_simp
  have q0 : w1.cell? ⟨w.heap.size + 1 + 1, 0, none⟩ = some (.bool a0) := by rw [chb _ _ (by first | (simp; done) | omega | (simp; omega))]; go_simp
  have q1 : w1.cell? ⟨w.heap.size + 1 + 1, 1, none⟩ = some (.bool a1) := by rw [chb _ _ (by first | (simp; done) | omega | (simp; omega))]; go_simp
  have q2 : w1.cell? ⟨w.heap.size + 1 + 1, 2, none⟩ = some (.bool a2) := by rw [chb _ _ (by first | (simp; done) | omega | (simp; omega))]; go_simp
  have q3 : w1.cell? ⟨w.heap.size + 1 + 1, 3, none⟩ = some (.bool a3) := by rw [chb _ _ (by first | (simp; done) | omega | (simp; omega))]; go_simp
  clear hb1 chb fhb
  have sw1_0_0 : w.heap.size < w1.heap.size := by omega
  have sw1_0_1 : w.heap.size < w1.heap.size + 1 := by omega
  have sw1_1_0 : w.heap.size + 1 < w1.heap.size := by omega
  have sw1_1_1 : w.heap.size + 1 < w1.heap.size + 1 := by omega
  have sw1_2_0 : w.heap.size + 1 + 1 < w1.heap.size := by omega
  have sw1_2_1 : w.heap.size + 1 + 1 < w1.heap.size + 1 := by omega
  go_wp2_with fail
  refine (plan_no T _ _ _ _ _ _ _ _ _ HB.out HNO.out).mono ?_
  rintro e2 w2 ⟨c, hc, rfl, hb2⟩
  have z2 := hb2.size
  simp at z2
  have B2 : Below w.heap.size w w2 := by repeat (first | with_reducible exact Below.refl _ _ | with_reducible exact B1 | ((with_reducible refine Below.setCell ?_ ?_ _); rotate_left; (· first | (simp; done) | omega | (simp; omega))) | with_reducible refine below_drewN ?_ _ | with_reducible refine Below.drew ?_ | ((with_reducible refine Below.trans ?_ (Below.mono hb2 ?_)); rotate_left; (· first | (simp; done) | omega | (simp; omega))) | ((with_reducible refine Below.alloc ?_ ?_ _); rotate_left; (· first | (simp; done) | omega | (simp; omega))) | exact Below.refl _ _ | exact B1 | refine Below.setCell ?_ (by first | (simp; done) | omega | (simp; omega)) _ | refine below_drewN ?_ _ | refine Below.drew ?_ | refine Below.trans ?_ (Below.mono hb2 (by first | (simp; done) | omega | (simp; omega))) | refine Below.alloc ?_ (by first | (simp; done) | omega | (simp; omega)) _)
  have dc : (c != 0) = true := by simpa using hc
  clear hb2 B1 t0 t1 t2 t3 t4 t5 t6 t7 t8 t9 t10 t11 p0 p1 p2 p3 q0 q1 q2 q3 hc
  go_wp2
  go_ret
  refine ⟨rfl, ?_⟩
  repeat (first | with_reducible exact Below.refl _ _ | with_reducible exact B2 | ((with_reducible refine Below.setCell ?_ ?_ _); rotate_left; (· first | (simp; done) | omega | (simp; omega))) | with_reducible refine below_drewN ?_ _ | with_reducible refine Below.drew ?_ | ((with_reducible refine Below.alloc ?_ ?_ _); rotate_left; (· first | (simp; done) | omega | (simp; omega))) | exact Below.refl _ _ | exact B2 | refine Below.setCell ?_ (by first | (simp; done) | omega | (simp; omega)) _ | refine below_drewN ?_ _ | refine Below.drew ?_ | refine Below.alloc ?_ (by first | (simp; done) | omega | (simp; omega)) _)
theorem law (m0 : Int) (f0 : Bool) (r0 m1 : Int) (f1 : Bool) (r1 m2 : Int) (f2 : Bool) (r2 m3 : Int) (f3 : Bool) (r3 : Int) (o0 o1 o2 o3 a0 a1 a2 a3 : Bool) (w : World) (hm0 : -9223372036854775808 ≤ m0 ∧ m0 ≤ 9223372036854775807) (hr0 : -9223372036854775808 ≤ r0 ∧ r0 ≤ 9223372036854775807) (hm1 : -9223372036854775808 ≤ m1 ∧ m1 ≤ 9223372036854775807) (hr1 : -9223372036854775808 ≤ r1 ∧ r1 ≤ 9223372036854775807) (hm2 : -9223372036854775808 ≤ m2 ∧ m2 ≤ 9223372036854775807) (hr2 : -9223372036854775808 ≤ r2 ∧ r2 ≤ 9223372036854775807) (hm3 : -9223372036854775808 ≤ m3 ∧ m3 ≤ 9223372036854775807) (hr3 : -9223372036854775808 ≤ r3 ∧ r3 ≤ 9223372036854775807) :
    Calls Try.prog 6 #[.agg #[.int .i64 m0, .bool f0, .int .i64 r0, .int .i64 m1, .bool f1, .int .i64 r1, .int .i64 m2, .bool f2, .int .i64 r2, .int .i64 m3, .bool f3, .int .i64 r3], .agg #[.bool o0, .bool o1, .bool o2, .bool o3], .agg #[.bool a0, .bool a1, .bool a2, .bool a3]] w fun e w' => e = .returned (.bool true) ∧ Below w.heap.size w w' := by
  by_cases h : ∀ j, j < 4 → OkS (sel4 (m0, f0, r0) (m1, f1, r1) (m2, f2, r2) (m3, f3, r3) j)
  · exact yes (sel4 (m0, f0, r0) (m1, f1, r1) (m2, f2, r2) (m3, f3, r3)) o0 o1 o2 o3 a0 a1 a2 a3 w h
  · refine no (sel4 (m0, f0, r0) (m1, f1, r1) (m2, f2, r2) (m3, f3, r3)) o0 o1 o2 o3 a0 a1 a2 a3 w (fun j hj => ?_) h
    rcases (by omega : j = 0 ∨ j = 1 ∨ j = 2 ∨ j = 3) with rfl | rfl | rfl | rfl
    · exact ⟨hm0, hr0⟩
    · exact ⟨hm1, hr1⟩
    · exact ⟨hm2, hr2⟩
    · exact ⟨hm3, hr3⟩
set_option maxRecDepth 100000 in
theorem lifted (os : Os) (started : os.Started) (H : Type) (enc : TypeId × Value → H) :
    ReturnsInHanded {} Try.checked os 6 .any (Rows.redSafeSpec.pre6 enc Try.prog Try.f6 Rows.redSafeRow.domain false) (Rows.redSafeSpec.post enc Try.prog Try.f6 false true false false) := by
  refine returnsInHanded_of_change (C := Try.checked) own started (by kernel_rfl) Try.func6
    (ChangeSpec.witness6 (enc := enc) (C := Try.checked) false ⟨#[], #[.agg #[.int .i64 0, .bool false, .int .i64 0, .int .i64 0, .bool false, .int .i64 0, .int .i64 0, .bool false, .int .i64 0, .int .i64 0, .bool false, .int .i64 0], .agg #[.bool false, .bool false, .bool false, .bool false], .agg #[.bool false, .bool false, .bool false, .bool false]], []⟩ 8 (by kernel_rfl) (by kernel_rfl) (by kernel_rfl) (by kernel_rfl)) ?_
  intro W base args ds gs before hval0 hW hcnd _
  have hval : ∀ (j : Nat) t v, Try.f6.params[j]? = some t → args[j]? = some v → Value.okWide Try.prog W .any base t v := hval0
  have hW' := hW
  obtain ⟨p, q, hA0, hV, rfl, hfz, hnd⟩ := hW
  have hA : DataW.TrodAll enc Try.prog W 0 (fun _ => true) true Try.f6.params.toList args.toList ds p := hA0
  rw [Try.params6] at hA hval
  obtain ⟨v0, vs0, d0, ds0, p0, q0, hargs, rfl, rfl, h0, r0⟩ := trodAll_cons hA
  obtain ⟨v1, vs1, d1, ds1, p1, q1, rfl, rfl, rfl, h1, r1⟩ := trodAll_cons r0
  obtain ⟨v2, vs2, d2, ds2, p2, q2, rfl, rfl, rfl, h2, r2⟩ := trodAll_cons r1
  obtain ⟨rfl, rfl, rfl⟩ := trodAll_nil r2
  obtain rfl : args = #[v0, v1, v2] := by cases args; simp_all
  obtain ⟨rfl, rfl⟩ := trodVars_none hV
  have k0 := h0
  have lt0 : ∀ x ∈ p0, x.block < W.heap.size := by obtain ⟨m, hm⟩ := k0; exact DataW.trod_lt m _ _ _ hm
  have k1 := h1
  have lt1 : ∀ x ∈ p1, x.block < W.heap.size := by obtain ⟨m, hm⟩ := k1; exact DataW.trod_lt m _ _ _ hm
  have k2 := h2
  have lt2 : ∀ x ∈ p2, x.block < W.heap.size := by obtain ⟨m, hm⟩ := k2; exact DataW.trod_lt m _ _ _ hm
  obtain ⟨cs0, rfl, lf0_0⟩ := open_flat 12 [3, 4, 3, 3, 4, 3, 3, 4, 3, 3, 4, 3] (by kernel_rfl) (by kernel_rfl) (by kernel_rfl) (hval 0 41 v0 rfl rfl) h0
  obtain ⟨c0_0, r0_0, rfl, y0_0, lf0_1⟩ := leafs_cons lf0_0
  obtain ⟨a0_0, rfl, w0_0⟩ := leaf_int Try.underlying3 y0_0
  obtain ⟨c0_1, r0_1, rfl, y0_1, lf0_2⟩ := leafs_cons lf0_1
  obtain ⟨a0_1, rfl⟩ := leaf_bool Try.underlying4 y0_1
  obtain ⟨c0_2, r0_2, rfl, y0_2, lf0_3⟩ := leafs_cons lf0_2
  obtain ⟨a0_2, rfl, w0_2⟩ := leaf_int Try.underlying3 y0_2
  obtain ⟨c0_3, r0_3, rfl, y0_3, lf0_4⟩ := leafs_cons lf0_3
  obtain ⟨a0_3, rfl, w0_3⟩ := leaf_int Try.underlying3 y0_3
  obtain ⟨c0_4, r0_4, rfl, y0_4, lf0_5⟩ := leafs_cons lf0_4
  obtain ⟨a0_4, rfl⟩ := leaf_bool Try.underlying4 y0_4
  obtain ⟨c0_5, r0_5, rfl, y0_5, lf0_6⟩ := leafs_cons lf0_5
  obtain ⟨a0_5, rfl, w0_5⟩ := leaf_int Try.underlying3 y0_5
  obtain ⟨c0_6, r0_6, rfl, y0_6, lf0_7⟩ := leafs_cons lf0_6
  obtain ⟨a0_6, rfl, w0_6⟩ := leaf_int Try.underlying3 y0_6
  obtain ⟨c0_7, r0_7, rfl, y0_7, lf0_8⟩ := leafs_cons lf0_7
  obtain ⟨a0_7, rfl⟩ := leaf_bool Try.underlying4 y0_7
  obtain ⟨c0_8, r0_8, rfl, y0_8, lf0_9⟩ := leafs_cons lf0_8
  obtain ⟨a0_8, rfl, w0_8⟩ := leaf_int Try.underlying3 y0_8
  obtain ⟨c0_9, r0_9, rfl, y0_9, lf0_10⟩ := leafs_cons lf0_9
  obtain ⟨a0_9, rfl, w0_9⟩ := leaf_int Try.underlying3 y0_9
  obtain ⟨c0_10, r0_10, rfl, y0_10, lf0_11⟩ := leafs_cons lf0_10
  obtain ⟨a0_10, rfl⟩ := leaf_bool Try.underlying4 y0_10
  obtain ⟨c0_11, r0_11, rfl, y0_11, lf0_12⟩ := leafs_cons lf0_11
  obtain ⟨a0_11, rfl, w0_11⟩ := leaf_int Try.underlying3 y0_11
  obtain rfl := leafs_nil lf0_12
  obtain ⟨cs1, rfl, lf1_0⟩ := open_flat 12 [4, 4, 4, 4] (by kernel_rfl) (by kernel_rfl) (by kernel_rfl) (hval 1 42 v1 rfl rfl) h1
  obtain ⟨c1_0, r1_0, rfl, y1_0, lf1_1⟩ := leafs_cons lf1_0
  obtain ⟨a1_0, rfl⟩ := leaf_bool Try.underlying4 y1_0
  obtain ⟨c1_1, r1_1, rfl, y1_1, lf1_2⟩ := leafs_cons lf1_1
  obtain ⟨a1_1, rfl⟩ := leaf_bool Try.underlying4 y1_1
  obtain ⟨c1_2, r1_2, rfl, y1_2, lf1_3⟩ := leafs_cons lf1_2
  obtain ⟨a1_2, rfl⟩ := leaf_bool Try.underlying4 y1_2
  obtain ⟨c1_3, r1_3, rfl, y1_3, lf1_4⟩ := leafs_cons lf1_3
  obtain ⟨a1_3, rfl⟩ := leaf_bool Try.underlying4 y1_3
  obtain rfl := leafs_nil lf1_4
  obtain ⟨cs2, rfl, lf2_0⟩ := open_flat 12 [4, 4, 4, 4] (by kernel_rfl) (by kernel_rfl) (by kernel_rfl) (hval 2 42 v2 rfl rfl) h2
  obtain ⟨c2_0, r2_0, rfl, y2_0, lf2_1⟩ := leafs_cons lf2_0
  obtain ⟨a2_0, rfl⟩ := leaf_bool Try.underlying4 y2_0
  obtain ⟨c2_1, r2_1, rfl, y2_1, lf2_2⟩ := leafs_cons lf2_1
  obtain ⟨a2_1, rfl⟩ := leaf_bool Try.underlying4 y2_1
  obtain ⟨c2_2, r2_2, rfl, y2_2, lf2_3⟩ := leafs_cons lf2_2
  obtain ⟨a2_2, rfl⟩ := leaf_bool Try.underlying4 y2_2
  obtain ⟨c2_3, r2_3, rfl, y2_3, lf2_4⟩ := leafs_cons lf2_3
  obtain ⟨a2_3, rfl⟩ := leaf_bool Try.underlying4 y2_3
  obtain rfl := leafs_nil lf2_4
  clear hA0 hval0
  refine (law a0_0 a0_1 a0_2 a0_3 a0_4 a0_5 a0_6 a0_7 a0_8 a0_9 a0_10 a0_11 a1_0 a1_1 a1_2 a1_3 a2_0 a2_1 a2_2 a2_3 W (bounds_i64 w0_0) (bounds_i64 w0_2) (bounds_i64 w0_3) (bounds_i64 w0_5) (bounds_i64 w0_6) (bounds_i64 w0_8) (bounds_i64 w0_9) (bounds_i64 w0_11)).mono fun e W' ⟨he, bel⟩ => ?_
  subst he
  exact ⟨_, rfl, _, _, _, [], _, [], hW', trodAll_mk1 (shut_bool Try.underlying4 _), (trodAll_cons_mk (Below.trod laidOut (by kernel_rfl) (of_decide_eq_true (by kernel_rfl)) k0 bel lt0) (trodAll_cons_mk (Below.trod laidOut (by kernel_rfl) (of_decide_eq_true (by kernel_rfl)) k1 bel lt1) (trodAll_cons_mk (Below.trod laidOut (by kernel_rfl) (of_decide_eq_true (by kernel_rfl)) k2 bel lt2) trodAll_mk0))), rfl, bel.frame _, fun h => by cases h⟩
theorem over : Rows.redSafeRow.holds Try.pinned (OpenSpec.ofChange Rows.redSafeSpec) :=
  OpenClaim.holds_of_wide 6 Try.f6 rfl rfl rfl rfl rfl rfl rfl ⟨rfl, rfl, rfl, rfl, rfl⟩ rfl rfl rfl rfl rfl (by kernel_rfl) Try.func6 (by kernel_rfl)
    (of_decide_eq_true (by kernel_rfl)) (by unfold Func.isWrapper; first | (rw [if_pos (by decide +kernel)]; kernel_rfl) | (rw [if_neg (by decide +kernel)]; exact ⟨rfl, rfl⟩))
    (fun os started H enc _ => lifted os started H enc)
theorem proved : Rows.RedSafeSaid := over
#print axioms proved

end Go.Proofs.Ytfifckcjadbiiaa.redSafe
