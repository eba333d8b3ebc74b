/- RedLowest: whatever the lanes, the oil and the faults are, the law answers true and leaves memory as it was. -/
import Derived.Test.YtfifckcjadbiiaaRedFacts
import Derived.Test.YtfifckcjadbiiaaSlc
namespace Go.Proofs.Ytfifckcjadbiiaa.redLowest
open Go.ChangeShapes Go.WideShapes Go.ChangeAt Go.RowKit Go.Proofs.Ytfifckcjadbiiaa Go.Proofs.Ytfifckcjadbiiaa.Open
set_option linter.unusedVariables false
/-- a list of numbers as integers -/
def intsL (U : List Nat) : List Int := U.map fun (i : Nat) => (i : Int)
theorem own_ints {w : World} {base : Nat} {U : List Nat} {v : Value} (h : w.ownsRow base 3 1 v U.length (intsV U)) : IntsAt .i64 w v (intsL U) := by
  rcases own_slice h with ⟨h0, a, cap, rfl⟩ | ⟨h0, g, cap, rfl, -, -, hl, hm, hc⟩
  · exact .inl ⟨by obtain rfl := List.eq_nil_of_length_eq_zero h0; rfl, a, cap, rfl⟩
  · have e : (intsL U).length = U.length := by simp [intsL]
    refine .inr ⟨by omega, g, 0, cap, by rw [e], by omega, hm, fun i hi => ?_⟩
    have := hc i (by omega)
    rw [Nat.zero_add, this]
    simp [intsL, List.getD_eq_getElem?_getD, List.getElem?_map, List.getElem?_eq_getElem (show i < U.length by omega)]
/-- the number of a lane among those that may be used -/
def kthI (fs os : Nat → Bool) (j : Nat) : Int := if (!fs j && os j) = true then (rankU fs os j : Int) else -1
theorem idx_usl (fs os : Nat → Bool) (j : Nat) (hj : j < 4) : idxI (intsL (usl fs os 4)) j = kthI fs os j := by
  generalize h0 : (!fs 0 && os 0) = b0
  generalize h1 : (!fs 1 && os 1) = b1
  generalize h2 : (!fs 2 && os 2) = b2
  generalize h3 : (!fs 3 && os 3) = b3
  rcases (by omega : j = 0 ∨ j = 1 ∨ j = 2 ∨ j = 3) with rfl | rfl | rfl | rfl <;> cases b0 <;> cases b1 <;> cases b2 <;> cases b3 <;>
    simp only [usl, rankU, kthI, h0, h1, h2, h3, if_true, if_false, Bool.false_eq_true] <;> rfl
theorem kth_bd (fs os : Nat → Bool) (j : Nat) : -1 ≤ kthI fs os j ∧ kthI fs os j ≤ j := by
  have h := usl_len fs os j
  rw [usl_rank] at h
  unfold kthI
  split <;> omega
theorem rank_ext {fs gs os : Nat → Bool} (k : Nat) (h : ∀ j, j < k → fs j = gs j) : rankU fs os k = rankU gs os k := by
  induction k with
  | zero => rfl
  | succ k ih => simp only [rankU]; rw [ih (fun j hj => h j (by omega)), h k (by omega)]
theorem kth_ext {fs gs os : Nat → Bool} {j : Nat} (h : ∀ i, i ≤ j → fs i = gs i) : kthI fs os j = kthI gs os j := by
  unfold kthI
  rw [h j (by omega), rank_ext j (fun i hi => h i (by omega))]
/-- just the first two are active -/
theorem low_one (T : Team) (fl os : Nat → Bool) (hok : ∀ j, j < 4 → OkS (T j)) (j : Nat) (hj : j < 4) :
    (planT T fl os j).1 = 1 ↔ 0 ≤ kthI (fun j => (planT T fl os j).2.1) os j ∧ kthI (fun j => (planT T fl os j).2.1) os j < 2 := by
  obtain ⟨h1, h2, -, -⟩ := planT_lane T fl os hok j hj
  rw [h1, kth_ext (gs := failP T fl) (fun i hi => (planT_lane T fl os hok i (by omega)).2.1)]
  unfold endM kthI
  have hm : (!failP T fl j && os j) = true → manyP T fl os ≠ 0 := by
    intro hu
    have mono : ∀ k d, rankU (failP T fl) os k ≤ rankU (failP T fl) os (k + d) := by
      intro k d
      induction d with
      | zero => exact Nat.le_refl _
      | succ d ih => show _ ≤ rankU (failP T fl) os (k + d) + (if (!failP T fl (k + d) && os (k + d)) = true then 1 else 0); omega
    have h3 : rankU (failP T fl) os (j + 1) = rankU (failP T fl) os j + 1 := by simp only [rankU]; rw [if_pos hu]
    have h4 := mono (j + 1) (4 - (j + 1))
    rw [show j + 1 + (4 - (j + 1)) = 4 by omega] at h4
    unfold manyP
    omega
  by_cases hu : (!failP T fl j && os j) = true
  · rw [if_neg (hm hu), if_pos hu, if_pos hu]
    by_cases hk : rankU (failP T fl) os j < 2
    · rw [if_pos hk]; omega
    · rw [if_neg hk]; omega
  · rw [if_neg hu, if_neg hu]
    split
    · omega
    · split <;> omega
theorem usable_is (T : Team) (o0 o1 o2 o3 : Bool) (w : World) (U : List Nat) (hU : usl (sel4 (T 0).2.1 (T 1).2.1 (T 2).2.1 (T 3).2.1) (sel4 o0 o1 o2 o3) 4 = U) :
    Calls Try.prog 18 #[teamV T, .agg #[.bool o0, .bool o1, .bool o2, .bool o3]] w fun e w' => ∃ v, e = .returned v ∧ IntsAt .i64 w' v (intsL U) ∧ Below w.heap.size w w' := by
  subst hU
  refine (usable_any _ _ _ _ _ _ _ _ _ _ _ _ o0 o1 o2 o3 w).mono ?_
  rintro e w' ⟨v, he, ho, hb⟩
  exact ⟨v, he, own_ints ho, hb⟩
def LowRel (W0 : World) (i : Value) (wr : World) : Prop := ∃ k : Nat, k ≤ 4 ∧ i = .int .i64 k ∧ Below W0.heap.size W0 wr
set_option maxHeartbeats 8000000 in
set_option maxRecDepth 100000 in
theorem yes (T : Team) (o0 o1 o2 o3 a0 a1 a2 a3 : Bool) (w : World) (hok : ∀ j, j < 4 → OkS (T j)) :
    Calls Try.prog 8 #[teamV T, .agg #[.bool o0, .bool o1, .bool o2, .bool o3], .agg #[.bool a0, .bool a1, .bool a2, .bool a3]] w fun e w' => e = .returned (.bool true) ∧ Below w.heap.size w w' := by
  have HOK := Lib.hid hok
  obtain ⟨X, hX⟩ : ∃ X, planT T (sel4 a0 a1 a2 a3) (sel4 o0 o1 o2 o3) = X := ⟨_, rfl⟩
  obtain ⟨n, hn⟩ : ∃ n : Int, ((planU T (sel4 a0 a1 a2 a3) (sel4 o0 o1 o2 o3)).length : Int) = n := ⟨_, rfl⟩
  obtain ⟨ac, hac⟩ : ∃ ac, actI (planC T (sel4 a0 a1 a2 a3) (sel4 o0 o1 o2 o3)) 4 = ac := ⟨_, rfl⟩
  obtain ⟨L, hL⟩ : ∃ L, (n == 0) = L := ⟨_, rfl⟩
  have K1 : Hid (planT T (sel4 a0 a1 a2 a3) (sel4 o0 o1 o2 o3) = X ∧ ((planU T (sel4 a0 a1 a2 a3) (sel4 o0 o1 o2 o3)).length : Int) = n ∧ actI (planC T (sel4 a0 a1 a2 a3) (sel4 o0 o1 o2 o3)) 4 = ac ∧ (n == 0) = L) := (⟨hX, hn, hac, hL⟩ : _ ∧ _ ∧ _ ∧ _)
  have hlow := fun j hj => low_one T (sel4 a0 a1 a2 a3) (sel4 o0 o1 o2 o3) hok j hj
  rw [hX] at hlow
  obtain ⟨U, hU⟩ : ∃ U, usl (sel4 (X 0).2.1 (X 1).2.1 (X 2).2.1 (X 3).2.1) (sel4 o0 o1 o2 o3) 4 = U := ⟨_, rfl⟩
  have hU2 : usl (fun j => (X j).2.1) (sel4 o0 o1 o2 o3) 4 = U := by
    rw [← hU]
    exact usl_ext 4 fun j hj => by rcases (by omega : j = 0 ∨ j = 1 ∨ j = 2 ∨ j = 3) with rfl | rfl | rfl | rfl <;> rfl
  have hidx : ∀ j : Nat, j < 4 → ∃ x : Int, idxI (intsL U) j = x ∧ (-1 ≤ x ∧ x ≤ 4) ∧ ((X j).1 = 1 ↔ 0 ≤ x ∧ x < 2) := fun j hj => by
    have h1 := idx_usl (fun j => (X j).2.1) (sel4 o0 o1 o2 o3) j hj
    have h2 := kth_bd (fun j => (X j).2.1) (sel4 o0 o1 o2 o3) j
    rw [hU2] at h1
    exact ⟨_, h1, by omega, hlow j hj⟩
  have KU := Lib.hid hU; have KI := Lib.hid hidx
  have hUl : (intsL U).length ≤ 4 := by rw [← hU]; unfold intsL; rw [List.length_map]; exact usl_len _ _ _
  have KL := Lib.hid hUl
  clear hok hX hn hac hL hlow hU hU2 hidx hUl
  go_enter Try.func8, Try.ntmps8
  go_wp2_with fail
  refine (usable_is (fun _ => (0, false, 0)) false true false true _ [1, 3] rfl).mono ?_
  rintro e1 w1 ⟨v1, rfl, hv1, hb1⟩
  have HV1 := Lib.hid hv1
  have z1 := hb1.size
  simp at z1
  have B1 : Below w.heap.size w w1 := by repeat (first | with_reducible exact Below.refl _ _ | ((with_reducible refine Below.setCell ?_ ?_ _); rotate_left; (· first | (simp; done) | omega | (simp; omega))) | with_reducible refine below_drewN ?_ _ | with_reducible refine Below.drew ?_ | ((with_reducible refine Below.trans ?_ (Below.mono hb1 ?_)); rotate_left; (· first | (simp; done) | omega | (simp; omega))) | ((with_reducible refine Below.alloc ?_ ?_ _); rotate_left; (· first | (simp; done) | omega | (simp; omega))) | exact Below.refl _ _ | refine Below.setCell ?_ (by first | (simp; done) | omega | (simp; omega)) _ | refine below_drewN ?_ _ | refine Below.drew ?_ | refine Below.trans ?_ (Below.mono hb1 (by first | (simp; done) | omega | (simp; omega))) | refine Below.alloc ?_ (by first | (simp; done) | omega | (simp; omega)) _)
  obtain ⟨chb, fhb⟩ := Open.bcell hb1
  have t0 : w1.cell? ⟨w.heap.size, 0, none⟩ = some (.int .i64 (T 0).1) := by rw [chb _ _ (by first | (simp; done) | omega | (simp; omega))]; go_simp
  have t1 : w1.cell? ⟨w.heap.size, 1, none⟩ = some (.bool (T 0).2.1) := by rw [chb _ _ (by first | (simp; done) | omega | (simp; omega))]; go_simp
  have t2 : w1.cell? ⟨w.heap.size, 2, none⟩ = some (.int .i64 (T 0).2.2) := by rw [chb _ _ (by first | (simp; done) | omega | (simp; omega))]; go_simp
  have t3 : w1.cell? ⟨w.heap.size, 3, none⟩ = some (.int .i64 (T 1).1) := by rw [chb _ _ (by first | (simp; done) | omega | (simp; omega))]; go_simp
  have t4 : w1.cell? ⟨w.heap.size, 4, none⟩ = some (.bool (T 1).2.1) := by rw [chb _ _ (by first | (simp; done) | omega | (simp; omega))]; go_simp
  have t5 : w1.cell? ⟨w.heap.size, 5, none⟩ = some (.int .i64 (T 1).2.2) := by rw [chb _ _ (by first | (simp; done) | omega | (simp; omega))]; go_simp
  have t6 : w1.cell? ⟨w.heap.size, 6, none⟩ = some (.int .i64 (T 2).1) := by rw [chb _ _ (by first | (simp; done) | omega | (simp; omega))]; go_simp
  have t7 : w1.cell? ⟨w.heap.size, 7, none⟩ = some (.bool (T 2).2.1) := by rw [chb _ _ (by first | (simp; done) | omega | (simp; omega))]; go_simp
  have t8 : w1.cell? ⟨w.heap.size, 8, none⟩ = some (.int .i64 (T 2).2.2) := by rw [chb _ _ (by first | (simp; done) | omega | (simp; omega))]; go_simp
  have t9 : w1.cell? ⟨w.heap.size, 9, none⟩ = some (.int .i64 (T 3).1) := by rw [chb _ _ (by first | (simp; done) | omega | (simp; omega))]; go_simp
  have t10 : w1.cell? ⟨w.heap.size, 10, none⟩ = some (.bool (T 3).2.1) := by rw [chb _ _ (by first | (simp; done) | omega | (simp; omega))]; go_simp
  have t11 : w1.cell? ⟨w.heap.size, 11, none⟩ = some (.int .i64 (T 3).2.2) := by rw [chb _ _ (by first | (simp; done) | omega | (simp; omega))]; go_simp
  have p0 : w1.cell? ⟨w.heap.size + 1, 0, none⟩ = some (.bool o0) := by rw [chb _ _ (by first | (simp; done) | omega | (simp; omega))]; go_simp
  have p1 : w1.cell? ⟨w.heap.size + 1, 1, none⟩ = some (.bool o1) := by rw [chb _ _ (by first | (simp; done) | omega | (simp; omega))]; go_simp
  have p2 : w1.cell? ⟨w.heap.size + 1, 2, none⟩ = some (.bool o2) := by rw [chb _ _ (by first | (simp; done) | omega | (simp; omega))]; go_simp
  have p3 : w1.cell? ⟨w.heap.size + 1, 3, none⟩ = some (.bool o3) := by rw [chb _ _ (by first | (simp; done) | omega | (simp; omega))]; go_simp
  have q0 : w1.cell? ⟨w.heap.size + 1 + 1, 0, none⟩ = some (.bool a0) := by rw [chb _ _ (by first | (simp; done) | omega | (simp; omega))]; go_simp
  have q1 : w1.cell? ⟨w.heap.size + 1 + 1, 1, none⟩ = some (.bool a1) := by rw [chb _ _ (by first | (simp; done) | omega | (simp; omega))]; go_simp
  have q2 : w1.cell? ⟨w.heap.size + 1 + 1, 2, none⟩ = some (.bool a2) := by rw [chb _ _ (by first | (simp; done) | omega | (simp; omega))]; go_simp
  have q3 : w1.cell? ⟨w.heap.size + 1 + 1, 3, none⟩ = some (.bool a3) := by rw [chb _ _ (by first | (simp; done) | omega | (simp; omega))]; go_simp
  clear hb1 chb fhb hv1
  have sw1_0_0 : w.heap.size < w1.heap.size := by omega
  have sw1_0_1 : w.heap.size < w1.heap.size + 1 := by omega
  have sw1_1_0 : w.heap.size + 1 < w1.heap.size := by omega
  have sw1_1_1 : w.heap.size + 1 < w1.heap.size + 1 := by omega
  have sw1_2_0 : w.heap.size + 1 + 1 < w1.heap.size := by omega
  have sw1_2_1 : w.heap.size + 1 + 1 < w1.heap.size + 1 := by omega
  go_wp2_with fail
  refine (equal_i64 [1, 3] [1, 3] v1 _ _ (HV1.out.later ((Below.refl w1.heap.size w1).alloc (Nat.le_refl _) _) (Nat.le_refl _)) (.inr ⟨by decide, w1.heap.size, 0, 2, rfl, by decide, by decide, fun i hi => ?_⟩) (by decide) (by decide)).mono ?_
  · rcases (by simp at hi; omega : i = 0 ∨ i = 1) with rfl | rfl
    · show World.cell? _ _ = some (.int .i64 1); go_simp
    · show World.cell? _ _ = some (.int .i64 3); go_simp
  rintro e2 w2 ⟨m, he2, hw2⟩
  rw [show decide (([1, 3] : List Int) = [1, 3]) = true from by decide] at he2
  subst he2
  have hb2 : Below w1.heap.size w1 w2 := by rw [hw2]; exact below_drewN ((Below.refl _ _).alloc (Nat.le_refl _) _) m
  have z2 : w1.heap.size < w2.heap.size := by rw [hw2]; simp
  clear hw2
  have B2 : Below w.heap.size w w2 := by repeat (first | with_reducible exact Below.refl _ _ | with_reducible exact B1 | ((with_reducible refine Below.setCell ?_ ?_ _); rotate_left; (· first | (simp; done) | omega | (simp; omega))) | with_reducible refine below_drewN ?_ _ | with_reducible refine Below.drew ?_ | ((with_reducible refine Below.trans ?_ (Below.mono hb2 ?_)); rotate_left; (· first | (simp; done) | omega | (simp; omega))) | ((with_reducible refine Below.alloc ?_ ?_ _); rotate_left; (· first | (simp; done) | omega | (simp; omega))) | exact Below.refl _ _ | exact B1 | refine Below.setCell ?_ (by first | (simp; done) | omega | (simp; omega)) _ | refine below_drewN ?_ _ | refine Below.drew ?_ | refine Below.trans ?_ (Below.mono hb2 (by first | (simp; done) | omega | (simp; omega))) | refine Below.alloc ?_ (by first | (simp; done) | omega | (simp; omega)) _)
  replace t0 := cell_later hb2 t0
  replace t1 := cell_later hb2 t1
  replace t2 := cell_later hb2 t2
  replace t3 := cell_later hb2 t3
  replace t4 := cell_later hb2 t4
  replace t5 := cell_later hb2 t5
  replace t6 := cell_later hb2 t6
  replace t7 := cell_later hb2 t7
  replace t8 := cell_later hb2 t8
  replace t9 := cell_later hb2 t9
  replace t10 := cell_later hb2 t10
  replace t11 := cell_later hb2 t11
  replace p0 := cell_later hb2 p0
  replace p1 := cell_later hb2 p1
  replace p2 := cell_later hb2 p2
  replace p3 := cell_later hb2 p3
  replace q0 := cell_later hb2 q0
  replace q1 := cell_later hb2 q1
  replace q2 := cell_later hb2 q2
  replace q3 := cell_later hb2 q3
  clear hb2 B1
  have sw2_0_0 : w.heap.size < w2.heap.size := by omega
  have sw2_0_1 : w.heap.size < w2.heap.size + 1 := by omega
  have sw2_1_0 : w.heap.size + 1 < w2.heap.size := by omega
  have sw2_1_1 : w.heap.size + 1 < w2.heap.size + 1 := by omega
  have sw2_2_0 : w.heap.size + 1 + 1 < w2.heap.size := by omega
  have sw2_2_1 : w.heap.size + 1 + 1 < w2.heap.size + 1 := by omega
  go_wp2_with fail
  refine (plan_is T _ _ _ _ _ _ _ _ _ HOK.out _ _ _ _ K1.out).mono ?_
  rintro e3 w3 ⟨rfl, hb3⟩
  have z3 := hb3.size
  try simp at z3
  have B3 : Below w.heap.size w w3 := by repeat (first | with_reducible exact Below.refl _ _ | with_reducible exact B2 | ((with_reducible refine Below.setCell ?_ ?_ _); rotate_left; (· first | (simp; done) | omega | (simp; omega))) | with_reducible refine below_drewN ?_ _ | with_reducible refine Below.drew ?_ | ((with_reducible refine Below.trans ?_ (Below.mono hb3 ?_)); rotate_left; (· first | (simp; done) | omega | (simp; omega))) | ((with_reducible refine Below.alloc ?_ ?_ _); rotate_left; (· first | (simp; done) | omega | (simp; omega))) | exact Below.refl _ _ | exact B2 | refine Below.setCell ?_ (by first | (simp; done) | omega | (simp; omega)) _ | refine below_drewN ?_ _ | refine Below.drew ?_ | refine Below.trans ?_ (Below.mono hb3 (by first | (simp; done) | omega | (simp; omega))) | refine Below.alloc ?_ (by first | (simp; done) | omega | (simp; omega)) _)
  replace p0 := cell_later hb3 p0
  replace p1 := cell_later hb3 p1
  replace p2 := cell_later hb3 p2
  replace p3 := cell_later hb3 p3
  clear hb3 B2 t0 t1 t2 t3 t4 t5 t6 t7 t8 t9 t10 t11 q0 q1 q2 q3
  have sw3_0_0 : w.heap.size < w3.heap.size := by omega
  have sw3_0_1 : w.heap.size < w3.heap.size + 1 := by omega
  have sw3_1_0 : w.heap.size + 1 < w3.heap.size := by omega
  have sw3_1_1 : w.heap.size + 1 < w3.heap.size + 1 := by omega
  have sw3_2_0 : w.heap.size + 1 + 1 < w3.heap.size := by omega
  have sw3_2_1 : w.heap.size + 1 + 1 < w3.heap.size + 1 := by omega
  go_wp2_with fail
  refine (usable_is X o0 o1 o2 o3 _ U KU.out).mono ?_
  rintro e4 w4 ⟨v4, rfl, hv4, hb4⟩
  have HV4 := Lib.hid hv4
  have z4 := hb4.size
  simp at z4
  have B4 : Below w.heap.size w w4 := by repeat (first | with_reducible exact Below.refl _ _ | with_reducible exact B3 | ((with_reducible refine Below.setCell ?_ ?_ _); rotate_left; (· first | (simp; done) | omega | (simp; omega))) | with_reducible refine below_drewN ?_ _ | with_reducible refine Below.drew ?_ | ((with_reducible refine Below.trans ?_ (Below.mono hb4 ?_)); rotate_left; (· first | (simp; done) | omega | (simp; omega))) | ((with_reducible refine Below.alloc ?_ ?_ _); rotate_left; (· first | (simp; done) | omega | (simp; omega))) | exact Below.refl _ _ | exact B3 | refine Below.setCell ?_ (by first | (simp; done) | omega | (simp; omega)) _ | refine below_drewN ?_ _ | refine Below.drew ?_ | refine Below.trans ?_ (Below.mono hb4 (by first | (simp; done) | omega | (simp; omega))) | refine Below.alloc ?_ (by first | (simp; done) | omega | (simp; omega)) _)
  obtain ⟨chb, fhb⟩ := Open.bcell hb4
  have x0 : w4.cell? ⟨w3.heap.size, 0, none⟩ = some (.int .i64 (X 0).1) := by rw [chb _ _ (by first | (simp; done) | omega | (simp; omega))]; go_simp
  have x1 : w4.cell? ⟨w3.heap.size, 1, none⟩ = some (.bool (X 0).2.1) := by rw [chb _ _ (by first | (simp; done) | omega | (simp; omega))]; go_simp
  have x2 : w4.cell? ⟨w3.heap.size, 2, none⟩ = some (.int .i64 (X 0).2.2) := by rw [chb _ _ (by first | (simp; done) | omega | (simp; omega))]; go_simp
  have x3 : w4.cell? ⟨w3.heap.size, 3, none⟩ = some (.int .i64 (X 1).1) := by rw [chb _ _ (by first | (simp; done) | omega | (simp; omega))]; go_simp
  have x4 : w4.cell? ⟨w3.heap.size, 4, none⟩ = some (.bool (X 1).2.1) := by rw [chb _ _ (by first | (simp; done) | omega | (simp; omega))]; go_simp
  have x5 : w4.cell? ⟨w3.heap.size, 5, none⟩ = some (.int .i64 (X 1).2.2) := by rw [chb _ _ (by first | (simp; done) | omega | (simp; omega))]; go_simp
  have x6 : w4.cell? ⟨w3.heap.size, 6, none⟩ = some (.int .i64 (X 2).1) := by rw [chb _ _ (by first | (simp; done) | omega | (simp; omega))]; go_simp
  have x7 : w4.cell? ⟨w3.heap.size, 7, none⟩ = some (.bool (X 2).2.1) := by rw [chb _ _ (by first | (simp; done) | omega | (simp; omega))]; go_simp
  have x8 : w4.cell? ⟨w3.heap.size, 8, none⟩ = some (.int .i64 (X 2).2.2) := by rw [chb _ _ (by first | (simp; done) | omega | (simp; omega))]; go_simp
  have x9 : w4.cell? ⟨w3.heap.size, 9, none⟩ = some (.int .i64 (X 3).1) := by rw [chb _ _ (by first | (simp; done) | omega | (simp; omega))]; go_simp
  have x10 : w4.cell? ⟨w3.heap.size, 10, none⟩ = some (.bool (X 3).2.1) := by rw [chb _ _ (by first | (simp; done) | omega | (simp; omega))]; go_simp
  have x11 : w4.cell? ⟨w3.heap.size, 11, none⟩ = some (.int .i64 (X 3).2.2) := by rw [chb _ _ (by first | (simp; done) | omega | (simp; omega))]; go_simp
  clear hb4 chb fhb B3 hv4 p0 p1 p2 p3
  have s4 : w3.heap.size < w4.heap.size := by omega
  have ix0 : ∀ w : World, (Instr.index 41 (.agg #[.int .i64 (X 0).1, .bool (X 0).2.1, .int .i64 (X 0).2.2, .int .i64 (X 1).1, .bool (X 1).2.1, .int .i64 (X 1).2.2, .int .i64 (X 2).1, .bool (X 2).2.1, .int .i64 (X 2).2.2, .int .i64 (X 3).1, .bool (X 3).2.1, .int .i64 (X 3).2.2]) (.int .i64 0)).run Try.prog w = .ok (.agg #[.int .i64 (X 0).1, .bool (X 0).2.1, .int .i64 (X 0).2.2]) w := fun _ => by kernel_rfl
  have ix1 : ∀ w : World, (Instr.index 41 (.agg #[.int .i64 (X 0).1, .bool (X 0).2.1, .int .i64 (X 0).2.2, .int .i64 (X 1).1, .bool (X 1).2.1, .int .i64 (X 1).2.2, .int .i64 (X 2).1, .bool (X 2).2.1, .int .i64 (X 2).2.2, .int .i64 (X 3).1, .bool (X 3).2.1, .int .i64 (X 3).2.2]) (.int .i64 1)).run Try.prog w = .ok (.agg #[.int .i64 (X 1).1, .bool (X 1).2.1, .int .i64 (X 1).2.2]) w := fun _ => by kernel_rfl
  have ix2 : ∀ w : World, (Instr.index 41 (.agg #[.int .i64 (X 0).1, .bool (X 0).2.1, .int .i64 (X 0).2.2, .int .i64 (X 1).1, .bool (X 1).2.1, .int .i64 (X 1).2.2, .int .i64 (X 2).1, .bool (X 2).2.1, .int .i64 (X 2).2.2, .int .i64 (X 3).1, .bool (X 3).2.1, .int .i64 (X 3).2.2]) (.int .i64 2)).run Try.prog w = .ok (.agg #[.int .i64 (X 2).1, .bool (X 2).2.1, .int .i64 (X 2).2.2]) w := fun _ => by kernel_rfl
  have ix3 : ∀ w : World, (Instr.index 41 (.agg #[.int .i64 (X 0).1, .bool (X 0).2.1, .int .i64 (X 0).2.2, .int .i64 (X 1).1, .bool (X 1).2.1, .int .i64 (X 1).2.2, .int .i64 (X 2).1, .bool (X 2).2.1, .int .i64 (X 2).2.2, .int .i64 (X 3).1, .bool (X 3).2.1, .int .i64 (X 3).2.2]) (.int .i64 3)).run Try.prog w = .ok (.agg #[.int .i64 (X 3).1, .bool (X 3).2.1, .int .i64 (X 3).2.2]) w := fun _ => by kernel_rfl
  go_wp2
  clear x0 x1 x2 x3 x4 x5 x6 x7 x8 x9 x10 x11
  go_loopw [36] (fun i wr => LowRel w4 i wr) (fun i _ => 4 - (intOf i).toNat)
  case atStart => exact ⟨0, by omega, rfl, Below.refl _ _⟩
  case round =>
    obtain ⟨k, hk, rfl, hB⟩ := hrel
    have zB := hB.size
    have HB := Lib.hid hB
    clear hB
    rcases (by omega : k = 0 ∨ k = 1 ∨ k = 2 ∨ k = 3 ∨ k = 4) with rfl | rfl | rfl | rfl | rfl
    · obtain ⟨x, hx, hxb, hxi⟩ := KI.out 0 (by omega)
      have HXI := Lib.hid hx
      clear hx
      by_cases h1 : (X 0).1 = 1
      · have d1 : ((X 0).1 == 1) = true := by rw [h1]; rfl
        have hx2 := hxi.1 h1
        have d2 : decide (0 ≤ x) = true := decide_eq_true hx2.1
        have d3 : decide (x < 2) = true := decide_eq_true hx2.2
        clear h1 hxi
        go_wp2_with fail
        refine (index_i64 (intsL U) v4 0 _ (HV4.out.later (HB.out.alloc zB _) (Nat.le_refl _)) (by have := KL.out; omega)).mono ?_
        rw [show (((0 : Nat) : Int)) = 0 from rfl] at HXI
        rw [HXI.out]
        rintro e5 w5 ⟨rfl, rfl⟩
        go_wp2
        go_roundw
        case rel => exact ⟨1, by omega, rfl, by have hB := HB.out; repeat (first | with_reducible exact Below.refl _ _ | with_reducible exact hB | ((with_reducible refine Below.setCell ?_ ?_ _); rotate_left; (· first | (simp; done) | omega | (simp; omega))) | with_reducible refine below_drewN ?_ _ | with_reducible refine Below.drew ?_ | ((with_reducible refine Below.alloc ?_ ?_ _); rotate_left; (· first | (simp; done) | omega | (simp; omega))) | exact Below.refl _ _ | exact hB | refine Below.setCell ?_ (by first | (simp; done) | omega | (simp; omega)) _ | refine below_drewN ?_ _ | refine Below.drew ?_ | refine Below.alloc ?_ (by first | (simp; done) | omega | (simp; omega)) _)⟩
        case measure => simp [intOf]
      · have d1 : ((X 0).1 == 1) = false := beq_eq_false_iff_ne.2 h1
        by_cases h0 : 0 ≤ x
        · have d2 : decide (0 ≤ x) = true := decide_eq_true h0
          have d3 : decide (x < 2) = false := decide_eq_false (fun h => h1 (hxi.2 ⟨h0, h⟩))
          clear h1 hxi
          go_wp2_with fail
          refine (index_i64 (intsL U) v4 0 _ (HV4.out.later (HB.out.alloc zB _) (Nat.le_refl _)) (by have := KL.out; omega)).mono ?_
          rw [show (((0 : Nat) : Int)) = 0 from rfl] at HXI
          rw [HXI.out]
          rintro e5 w5 ⟨rfl, rfl⟩
          go_wp2
          go_roundw
          case rel => exact ⟨1, by omega, rfl, by have hB := HB.out; repeat (first | with_reducible exact Below.refl _ _ | with_reducible exact hB | ((with_reducible refine Below.setCell ?_ ?_ _); rotate_left; (· first | (simp; done) | omega | (simp; omega))) | with_reducible refine below_drewN ?_ _ | with_reducible refine Below.drew ?_ | ((with_reducible refine Below.alloc ?_ ?_ _); rotate_left; (· first | (simp; done) | omega | (simp; omega))) | exact Below.refl _ _ | exact hB | refine Below.setCell ?_ (by first | (simp; done) | omega | (simp; omega)) _ | refine below_drewN ?_ _ | refine Below.drew ?_ | refine Below.alloc ?_ (by first | (simp; done) | omega | (simp; omega)) _)⟩
          case measure => simp [intOf]
        · have d2 : decide (0 ≤ x) = false := decide_eq_false h0
          clear h1 hxi
          go_wp2_with fail
          refine (index_i64 (intsL U) v4 0 _ (HV4.out.later (HB.out.alloc zB _) (Nat.le_refl _)) (by have := KL.out; omega)).mono ?_
          rw [show (((0 : Nat) : Int)) = 0 from rfl] at HXI
          rw [HXI.out]
          rintro e5 w5 ⟨rfl, rfl⟩
          go_wp2
          go_roundw
          case rel => exact ⟨1, by omega, rfl, by have hB := HB.out; repeat (first | with_reducible exact Below.refl _ _ | with_reducible exact hB | ((with_reducible refine Below.setCell ?_ ?_ _); rotate_left; (· first | (simp; done) | omega | (simp; omega))) | with_reducible refine below_drewN ?_ _ | with_reducible refine Below.drew ?_ | ((with_reducible refine Below.alloc ?_ ?_ _); rotate_left; (· first | (simp; done) | omega | (simp; omega))) | exact Below.refl _ _ | exact hB | refine Below.setCell ?_ (by first | (simp; done) | omega | (simp; omega)) _ | refine below_drewN ?_ _ | refine Below.drew ?_ | refine Below.alloc ?_ (by first | (simp; done) | omega | (simp; omega)) _)⟩
          case measure => simp [intOf]
    · obtain ⟨x, hx, hxb, hxi⟩ := KI.out 1 (by omega)
      have HXI := Lib.hid hx
      clear hx
      by_cases h1 : (X 1).1 = 1
      · have d1 : ((X 1).1 == 1) = true := by rw [h1]; rfl
        have hx2 := hxi.1 h1
        have d2 : decide (0 ≤ x) = true := decide_eq_true hx2.1
        have d3 : decide (x < 2) = true := decide_eq_true hx2.2
        clear h1 hxi
        go_wp2_with fail
        refine (index_i64 (intsL U) v4 1 _ (HV4.out.later (HB.out.alloc zB _) (Nat.le_refl _)) (by have := KL.out; omega)).mono ?_
        rw [show (((1 : Nat) : Int)) = 1 from rfl] at HXI
        rw [HXI.out]
        rintro e5 w5 ⟨rfl, rfl⟩
        go_wp2
        go_roundw
        case rel => exact ⟨2, by omega, rfl, by have hB := HB.out; repeat (first | with_reducible exact Below.refl _ _ | with_reducible exact hB | ((with_reducible refine Below.setCell ?_ ?_ _); rotate_left; (· first | (simp; done) | omega | (simp; omega))) | with_reducible refine below_drewN ?_ _ | with_reducible refine Below.drew ?_ | ((with_reducible refine Below.alloc ?_ ?_ _); rotate_left; (· first | (simp; done) | omega | (simp; omega))) | exact Below.refl _ _ | exact hB | refine Below.setCell ?_ (by first | (simp; done) | omega | (simp; omega)) _ | refine below_drewN ?_ _ | refine Below.drew ?_ | refine Below.alloc ?_ (by first | (simp; done) | omega | (simp; omega)) _)⟩
        case measure => simp [intOf]
      · have d1 : ((X 1).1 == 1) = false := beq_eq_false_iff_ne.2 h1
        by_cases h0 : 0 ≤ x
        · have d2 : decide (0 ≤ x) = true := decide_eq_true h0
          have d3 : decide (x < 2) = false := decide_eq_false (fun h => h1 (hxi.2 ⟨h0, h⟩))
          clear h1 hxi
          go_wp2_with fail
          refine (index_i64 (intsL U) v4 1 _ (HV4.out.later (HB.out.alloc zB _) (Nat.le_refl _)) (by have := KL.out; omega)).mono ?_
          rw [show (((1 : Nat) : Int)) = 1 from rfl] at HXI
          rw [HXI.out]
          rintro e5 w5 ⟨rfl, rfl⟩
          go_wp2
          go_roundw
          case rel => exact ⟨2, by omega, rfl, by have hB := HB.out; repeat (first | with_reducible exact Below.refl _ _ | with_reducible exact hB | ((with_reducible refine Below.setCell ?_ ?_ _); rotate_left; (· first | (simp; done) | omega | (simp; omega))) | with_reducible refine below_drewN ?_ _ | with_reducible refine Below.drew ?_ | ((with_reducible refine Below.alloc ?_ ?_ _); rotate_left; (· first | (simp; done) | omega | (simp; omega))) | exact Below.refl _ _ | exact hB | refine Below.setCell ?_ (by first | (simp; done) | omega | (simp; omega)) _ | refine below_drewN ?_ _ | refine Below.drew ?_ | refine Below.alloc ?_ (by first | (simp; done) | omega | (simp; omega)) _)⟩
          case measure => simp [intOf]
        · have d2 : decide (0 ≤ x) = false := decide_eq_false h0
          clear h1 hxi
          go_wp2_with fail
          refine (index_i64 (intsL U) v4 1 _ (HV4.out.later (HB.out.alloc zB _) (Nat.le_refl _)) (by have := KL.out; omega)).mono ?_
          rw [show (((1 : Nat) : Int)) = 1 from rfl] at HXI
          rw [HXI.out]
          rintro e5 w5 ⟨rfl, rfl⟩
          go_wp2
          go_roundw
          case rel => exact ⟨2, by omega, rfl, by have hB := HB.out; repeat (first | with_reducible exact Below.refl _ _ | with_reducible exact hB | ((with_reducible refine Below.setCell ?_ ?_ _); rotate_left; (· first | (simp; done) | omega | (simp; omega))) | with_reducible refine below_drewN ?_ _ | with_reducible refine Below.drew ?_ | ((with_reducible refine Below.alloc ?_ ?_ _); rotate_left; (· first | (simp; done) | omega | (simp; omega))) | exact Below.refl _ _ | exact hB | refine Below.setCell ?_ (by first | (simp; done) | omega | (simp; omega)) _ | refine below_drewN ?_ _ | refine Below.drew ?_ | refine Below.alloc ?_ (by first | (simp; done) | omega | (simp; omega)) _)⟩
          case measure => simp [intOf]
    · obtain ⟨x, hx, hxb, hxi⟩ := KI.out 2 (by omega)
      have HXI := Lib.hid hx
      clear hx
      by_cases h1 : (X 2).1 = 1
      · have d1 : ((X 2).1 == 1) = true := by rw [h1]; rfl
        have hx2 := hxi.1 h1
        have d2 : decide (0 ≤ x) = true := decide_eq_true hx2.1
        have d3 : decide (x < 2) = true := decide_eq_true hx2.2
        clear h1 hxi
        go_wp2_with fail
        refine (index_i64 (intsL U) v4 2 _ (HV4.out.later (HB.out.alloc zB _) (Nat.le_refl _)) (by have := KL.out; omega)).mono ?_
        rw [show (((2 : Nat) : Int)) = 2 from rfl] at HXI
        rw [HXI.out]
        rintro e5 w5 ⟨rfl, rfl⟩
        go_wp2
        go_roundw
        case rel => exact ⟨3, by omega, rfl, by have hB := HB.out; repeat (first | with_reducible exact Below.refl _ _ | with_reducible exact hB | ((with_reducible refine Below.setCell ?_ ?_ _); rotate_left; (· first | (simp; done) | omega | (simp; omega))) | with_reducible refine below_drewN ?_ _ | with_reducible refine Below.drew ?_ | ((with_reducible refine Below.alloc ?_ ?_ _); rotate_left; (· first | (simp; done) | omega | (simp; omega))) | exact Below.refl _ _ | exact hB | refine Below.setCell ?_ (by first | (simp; done) | omega | (simp; omega)) _ | refine below_drewN ?_ _ | refine Below.drew ?_ | refine Below.alloc ?_ (by first | (simp; done) | omega | (simp; omega)) _)⟩
        case measure => simp [intOf]
      · have d1 : ((X 2).1 == 1) = false := beq_eq_false_iff_ne.2 h1
        by_cases h0 : 0 ≤ x
        · have d2 : decide (0 ≤ x) = true := decide_eq_true h0
          have d3 : decide (x < 2) = false := decide_eq_false (fun h => h1 (hxi.2 ⟨h0, h⟩))
          clear h1 hxi
          go_wp2_with fail
          refine (index_i64 (intsL U) v4 2 _ (HV4.out.later (HB.out.alloc zB _) (Nat.le_refl _)) (by have := KL.out; omega)).mono ?_
          rw [show (((2 : Nat) : Int)) = 2 from rfl] at HXI
          rw [HXI.out]
          rintro e5 w5 ⟨rfl, rfl⟩
          go_wp2
          go_roundw
          case rel => exact ⟨3, by omega, rfl, by have hB := HB.out; repeat (first | with_reducible exact Below.refl _ _ | with_reducible exact hB | ((with_reducible refine Below.setCell ?_ ?_ _); rotate_left; (· first | (simp; done) | omega | (simp; omega))) | with_reducible refine below_drewN ?_ _ | with_reducible refine Below.drew ?_ | ((with_reducible refine Below.alloc ?_ ?_ _); rotate_left; (· first | (simp; done) | omega | (simp; omega))) | exact Below.refl _ _ | exact hB | refine Below.setCell ?_ (by first | (simp; done) | omega | (simp; omega)) _ | refine below_drewN ?_ _ | refine Below.drew ?_ | refine Below.alloc ?_ (by first | (simp; done) | omega | (simp; omega)) _)⟩
          case measure => simp [intOf]
        · have d2 : decide (0 ≤ x) = false := decide_eq_false h0
          clear h1 hxi
          go_wp2_with fail
          refine (index_i64 (intsL U) v4 2 _ (HV4.out.later (HB.out.alloc zB _) (Nat.le_refl _)) (by have := KL.out; omega)).mono ?_
          rw [show (((2 : Nat) : Int)) = 2 from rfl] at HXI
          rw [HXI.out]
          rintro e5 w5 ⟨rfl, rfl⟩
          go_wp2
          go_roundw
          case rel => exact ⟨3, by omega, rfl, by have hB := HB.out; repeat (first | with_reducible exact Below.refl _ _ | with_reducible exact hB | ((with_reducible refine Below.setCell ?_ ?_ _); rotate_left; (· first | (simp; done) | omega | (simp; omega))) | with_reducible refine below_drewN ?_ _ | with_reducible refine Below.drew ?_ | ((with_reducible refine Below.alloc ?_ ?_ _); rotate_left; (· first | (simp; done) | omega | (simp; omega))) | exact Below.refl _ _ | exact hB | refine Below.setCell ?_ (by first | (simp; done) | omega | (simp; omega)) _ | refine below_drewN ?_ _ | refine Below.drew ?_ | refine Below.alloc ?_ (by first | (simp; done) | omega | (simp; omega)) _)⟩
          case measure => simp [intOf]
    · obtain ⟨x, hx, hxb, hxi⟩ := KI.out 3 (by omega)
      have HXI := Lib.hid hx
      clear hx
      by_cases h1 : (X 3).1 = 1
      · have d1 : ((X 3).1 == 1) = true := by rw [h1]; rfl
        have hx2 := hxi.1 h1
        have d2 : decide (0 ≤ x) = true := decide_eq_true hx2.1
        have d3 : decide (x < 2) = true := decide_eq_true hx2.2
        clear h1 hxi
        go_wp2_with fail
        refine (index_i64 (intsL U) v4 3 _ (HV4.out.later (HB.out.alloc zB _) (Nat.le_refl _)) (by have := KL.out; omega)).mono ?_
        rw [show (((3 : Nat) : Int)) = 3 from rfl] at HXI
        rw [HXI.out]
        rintro e5 w5 ⟨rfl, rfl⟩
        go_wp2
        go_roundw
        case rel => exact ⟨4, by omega, rfl, by have hB := HB.out; repeat (first | with_reducible exact Below.refl _ _ | with_reducible exact hB | ((with_reducible refine Below.setCell ?_ ?_ _); rotate_left; (· first | (simp; done) | omega | (simp; omega))) | with_reducible refine below_drewN ?_ _ | with_reducible refine Below.drew ?_ | ((with_reducible refine Below.alloc ?_ ?_ _); rotate_left; (· first | (simp; done) | omega | (simp; omega))) | exact Below.refl _ _ | exact hB | refine Below.setCell ?_ (by first | (simp; done) | omega | (simp; omega)) _ | refine below_drewN ?_ _ | refine Below.drew ?_ | refine Below.alloc ?_ (by first | (simp; done) | omega | (simp; omega)) _)⟩
        case measure => simp [intOf]
      · have d1 : ((X 3).1 == 1) = false := beq_eq_false_iff_ne.2 h1
        by_cases h0 : 0 ≤ x
        · have d2 : decide (0 ≤ x) = true := decide_eq_true h0
          have d3 : decide (x < 2) = false := decide_eq_false (fun h => h1 (hxi.2 ⟨h0, h⟩))
          clear h1 hxi
          go_wp2_with fail
          refine (index_i64 (intsL U) v4 3 _ (HV4.out.later (HB.out.alloc zB _) (Nat.le_refl _)) (by have := KL.out; omega)).mono ?_
          rw [show (((3 : Nat) : Int)) = 3 from rfl] at HXI
          rw [HXI.out]
          rintro e5 w5 ⟨rfl, rfl⟩
          go_wp2
          go_roundw
          case rel => exact ⟨4, by omega, rfl, by have hB := HB.out; repeat (first | with_reducible exact Below.refl _ _ | with_reducible exact hB | ((with_reducible refine Below.setCell ?_ ?_ _); rotate_left; (· first | (simp; done) | omega | (simp; omega))) | with_reducible refine below_drewN ?_ _ | with_reducible refine Below.drew ?_ | ((with_reducible refine Below.alloc ?_ ?_ _); rotate_left; (· first | (simp; done) | omega | (simp; omega))) | exact Below.refl _ _ | exact hB | refine Below.setCell ?_ (by first | (simp; done) | omega | (simp; omega)) _ | refine below_drewN ?_ _ | refine Below.drew ?_ | refine Below.alloc ?_ (by first | (simp; done) | omega | (simp; omega)) _)⟩
          case measure => simp [intOf]
        · have d2 : decide (0 ≤ x) = false := decide_eq_false h0
          clear h1 hxi
          go_wp2_with fail
          refine (index_i64 (intsL U) v4 3 _ (HV4.out.later (HB.out.alloc zB _) (Nat.le_refl _)) (by have := KL.out; omega)).mono ?_
          rw [show (((3 : Nat) : Int)) = 3 from rfl] at HXI
          rw [HXI.out]
          rintro e5 w5 ⟨rfl, rfl⟩
          go_wp2
          go_roundw
          case rel => exact ⟨4, by omega, rfl, by have hB := HB.out; repeat (first | with_reducible exact Below.refl _ _ | with_reducible exact hB | ((with_reducible refine Below.setCell ?_ ?_ _); rotate_left; (· first | (simp; done) | omega | (simp; omega))) | with_reducible refine below_drewN ?_ _ | with_reducible refine Below.drew ?_ | ((with_reducible refine Below.alloc ?_ ?_ _); rotate_left; (· first | (simp; done) | omega | (simp; omega))) | exact Below.refl _ _ | exact hB | refine Below.setCell ?_ (by first | (simp; done) | omega | (simp; omega)) _ | refine below_drewN ?_ _ | refine Below.drew ?_ | refine Below.alloc ?_ (by first | (simp; done) | omega | (simp; omega)) _)⟩
          case measure => simp [intOf]
    · go_wp2
      go_ret
      exact ⟨rfl, B4.trans (HB.out.mono B4.size)⟩
set_option maxHeartbeats 8000000 in
set_option maxRecDepth 100000 in
theorem no (T : Team) (o0 o1 o2 o3 a0 a1 a2 a3 : Bool) (w : World) (hb : ∀ j, j < 4 → (-9223372036854775808 ≤ (T j).1 ∧ (T j).1 ≤ 9223372036854775807) ∧ -9223372036854775808 ≤ (T j).2.2 ∧ (T j).2.2 ≤ 9223372036854775807)
    (hno : ¬ ∀ j, j < 4 → OkS (T j)) :
    Calls Try.prog 8 #[teamV T, .agg #[.bool o0, .bool o1, .bool o2, .bool o3], .agg #[.bool a0, .bool a1, .bool a2, .bool a3]] w fun e w' => e = .returned (.bool true) ∧ Below w.heap.size w w' := by
  have HB := Lib.hid hb; have HNO := Lib.hid hno
  clear hb hno
  go_enter Try.func8, Try.ntmps8
  go_wp2_with fail
  refine (usable_is (fun _ => (0, false, 0)) false true false true _ [1, 3] rfl).mono ?_
  rintro e1 w1 ⟨v1, rfl, hv1, hb1⟩
  have HV1 := Lib.hid hv1
  have z1 := hb1.size
  simp at z1
  have B1 : Below w.heap.size w w1 := by repeat (first | with_reducible exact Below.refl _ _ | ((with_reducible refine Below.setCell ?_ ?_ _); rotate_left; (· first | (simp; done) | omega | (simp; omega))) | with_reducible refine below_drewN ?_ _ | with_reducible refine Below.drew ?_ | ((with_reducible refine Below.trans ?_ (Below.mono hb1 ?_)); rotate_left; (· first | (simp; done) | omega | (simp; omega))) | ((with_reducible refine Below.alloc ?_ ?_ _); rotate_left; (· first | (simp; done) | omega | (simp; omega))) | exact Below.refl _ _ | refine Below.setCell ?_ (by first | (simp; done) | omega | (simp; omega)) _ | refine below_drewN ?_ _ | refine Below.drew ?_ | refine Below.trans ?_ (Below.mono hb1 (by first | (simp; done) | omega | (simp; omega))) | refine Below.alloc ?_ (by first | (simp; done) | omega | (simp; omega)) _)
  obtain ⟨chb, fhb⟩ := Open.bcell hb1
  have t0 : w1.cell? ⟨w.heap.size, 0, none⟩ = some (.int .i64 (T 0).1) := by rw [chb _ _ (by first | (simp; done) | omega | (simp; omega))]; go_simp
  have t1 : w1.cell? ⟨w.heap.size, 1, none⟩ = some (.bool (T 0).2.1) := by rw [chb _ _ (by first | (simp; done) | omega | (simp; omega))]; go_simp
  have t2 : w1.cell? ⟨w.heap.size, 2, none⟩ = some (.int .i64 (T 0).2.2) := by rw [chb _ _ (by first | (simp; done) | omega | (simp; omega))]; go_simp
  have t3 : w1.cell? ⟨w.heap.size, 3, none⟩ = some (.int .i64 (T 1).1) := by rw [chb _ _ (by first | (simp; done) | omega | (simp; omega))]; go_simp
  have t4 : w1.cell? ⟨w.heap.size, 4, none⟩ = some (.bool (T 1).2.1) := by rw [chb _ _ (by first | (simp; done) | omega | (simp; omega))]; go_simp
  have t5 : w1.cell? ⟨w.heap.size, 5, none⟩ = some (.int .i64 (T 1).2.2) := by rw [chb _ _ (by first | (simp; done) | omega | (simp; omega))]; go_simp
  have t6 : w1.cell? ⟨w.heap.size, 6, none⟩ = some (.int .i64 (T 2).1) := by rw [chb _ _ (by first | (simp; done) | omega | (simp; omega))]; go_simp
  have t7 : w1.cell? ⟨w.heap.size, 7, none⟩ = some (.bool (T 2).2.1) := by rw [chb _ _ (by first | (simp; done) | omega | (simp; omega))]; go_simp
  have t8 : w1.cell? ⟨w.heap.size, 8, none⟩ = some (.int .i64 (T 2).2.2) := by rw [chb _ _ (by first | (simp; done) | omega | (simp; omega))]; go_simp
  have t9 : w1.cell? ⟨w.heap.size, 9, none⟩ = some (.int .i64 (T 3).1) := by rw [chb _ _ (by first | (simp; done) | omega | (simp; omega))]; go_simp
  have t10 : w1.cell? ⟨w.heap.size, 10, none⟩ = some (.bool (T 3).2.1) := by rw [chb _ _ (by first | (simp; done) | omega | (simp; omega))]; go_simp
  have t11 : w1.cell? ⟨w.heap.size, 11, none⟩ = some (.int .i64 (T 3).2.2) := by rw [chb _ _ (by first | (simp; done) | omega | (simp; omega))]; go_simp
  have p0 : w1.cell? ⟨w.heap.size + 1, 0, none⟩ = some (.bool o0) := by rw [chb _ _ (by first | (simp; done) | omega | (simp; omega))]; go_simp
  have p1 : w1.cell? ⟨w.heap.size + 1, 1, none⟩ = some (.bool o1) := by rw [chb _ _ (by first | (simp; done) | omega | (simp; omega))]; go_simp
  have p2 : w1.cell? ⟨w.heap.size + 1, 2, none⟩ = some (.bool o2) := by rw [chb _ _ (by first | (simp; done) | omega | (simp; omega))]; go_simp
  have p3 : w1.cell? ⟨w.heap.size + 1, 3, none⟩ = some (.bool o3) := by rw [chb _ _ (by first | (simp; done) | omega | (simp; omega))]; go_simp
  have q0 : w1.cell? ⟨w.heap.size + 1 + 1, 0, none⟩ = some (.bool a0) := by rw [chb _ _ (by first | (simp; done) | omega | (simp; omega))]; go_simp
  have q1 : w1.cell? ⟨w.heap.size + 1 + 1, 1, none⟩ = some (.bool a1) := by rw [chb _ _ (by first | (simp; done) | omega | (simp; omega))]; go_simp
  have q2 : w1.cell? ⟨w.heap.size + 1 + 1, 2, none⟩ = some (.bool a2) := by rw [chb _ _ (by first | (simp; done) | omega | (simp; omega))]; go_simp
  have q3 : w1.cell? ⟨w.heap.size + 1 + 1, 3, none⟩ = some (.bool a3) := by rw [chb _ _ (by first | (simp; done) | omega | (simp; omega))]; go_simp
  clear hb1 chb fhb hv1
  have sw1_0_0 : w.heap.size < w1.heap.size := by omega
  have sw1_0_1 : w.heap.size < w1.heap.size + 1 := by omega
  have sw1_1_0 : w.heap.size + 1 < w1.heap.size := by omega
  have sw1_1_1 : w.heap.size + 1 < w1.heap.size + 1 := by omega
  have sw1_2_0 : w.heap.size + 1 + 1 < w1.heap.size := by omega
  have sw1_2_1 : w.heap.size + 1 + 1 < w1.heap.size + 1 := by omega
  go_wp2_with fail
  refine (equal_i64 [1, 3] [1, 3] v1 _ _ (HV1.out.later ((Below.refl w1.heap.size w1).alloc (Nat.le_refl _) _) (Nat.le_refl _)) (.inr ⟨by decide, w1.heap.size, 0, 2, rfl, by decide, by decide, fun i hi => ?_⟩) (by decide) (by decide)).mono ?_
  · rcases (by simp at hi; omega : i = 0 ∨ i = 1) with rfl | rfl
    · show World.cell? _ _ = some (.int .i64 1); go_simp
    · show World.cell? _ _ = some (.int .i64 3); go_simp
  rintro e2 w2 ⟨m, he2, hw2⟩
  rw [show decide (([1, 3] : List Int) = [1, 3]) = true from by decide] at he2
  subst he2
  have hb2 : Below w1.heap.size w1 w2 := by rw [hw2]; exact below_drewN ((Below.refl _ _).alloc (Nat.le_refl _) _) m
  have z2 : w1.heap.size < w2.heap.size := by rw [hw2]; simp
  clear hw2
  have B2 : Below w.heap.size w w2 := by repeat (first | with_reducible exact Below.refl _ _ | with_reducible exact B1 | ((with_reducible refine Below.setCell ?_ ?_ _); rotate_left; (· first | (simp; done) | omega | (simp; omega))) | with_reducible refine below_drewN ?_ _ | with_reducible refine Below.drew ?_ | ((with_reducible refine Below.trans ?_ (Below.mono hb2 ?_)); rotate_left; (· first | (simp; done) | omega | (simp; omega))) | ((with_reducible refine Below.alloc ?_ ?_ _); rotate_left; (· first | (simp; done) | omega | (simp; omega))) | exact Below.refl _ _ | exact B1 | refine Below.setCell ?_ (by first | (simp; done) | omega | (simp; omega)) _ | refine below_drewN ?_ _ | refine Below.drew ?_ | refine Below.trans ?_ (Below.mono hb2 (by first | (simp; done) | omega | (simp; omega))) | refine Below.alloc ?_ (by first | (simp; done) | omega | (simp; omega)) _)
  replace t0 := cell_later hb2 t0
  replace t1 := cell_later hb2 t1
  replace t2 := cell_later hb2 t2
  replace t3 := cell_later hb2 t3
  replace t4 := cell_later hb2 t4
  replace t5 := cell_later hb2 t5
  replace t6 := cell_later hb2 t6
  replace t7 := cell_later hb2 t7
  replace t8 := cell_later hb2 t8
  replace t9 := cell_later hb2 t9
  replace t10 := cell_later hb2 t10
  replace t11 := cell_later hb2 t11
  replace p0 := cell_later hb2 p0
  replace p1 := cell_later hb2 p1
  replace p2 := cell_later hb2 p2
  replace p3 := cell_later hb2 p3
  replace q0 := cell_later hb2 q0
  replace q1 := cell_later hb2 q1
  replace q2 := cell_later hb2 q2
  replace q3 := cell_later hb2 q3
  clear hb2 B1
  have sw2_0_0 : w.heap.size < w2.heap.size := by omega
  have sw2_0_1 : w.heap.size < w2.heap.size + 1 := by omega
  have sw2_1_0 : w.heap.size + 1 < w2.heap.size := by omega
  have sw2_1_1 : w.heap.size + 1 < w2.heap.size + 1 := by omega
  have sw2_2_0 : w.heap.size + 1 + 1 < w2.heap.size := by omega
  have sw2_2_1 : w.heap.size + 1 + 1 < w2.heap.size + 1 := by omega
  go_wp2_with fail
  refine (plan_no T _ _ _ _ _ _ _ _ _ HB.out HNO.out).mono ?_
  rintro e3 w3 ⟨c, hc, rfl, hb3⟩
  have z3 := hb3.size
  try simp at z3
  have B3 : Below w.heap.size w w3 := by repeat (first | with_reducible exact Below.refl _ _ | with_reducible exact B2 | ((with_reducible refine Below.setCell ?_ ?_ _); rotate_left; (· first | (simp; done) | omega | (simp; omega))) | with_reducible refine below_drewN ?_ _ | with_reducible refine Below.drew ?_ | ((with_reducible refine Below.trans ?_ (Below.mono hb3 ?_)); rotate_left; (· first | (simp; done) | omega | (simp; omega))) | ((with_reducible refine Below.alloc ?_ ?_ _); rotate_left; (· first | (simp; done) | omega | (simp; omega))) | exact Below.refl _ _ | exact B2 | refine Below.setCell ?_ (by first | (simp; done) | omega | (simp; omega)) _ | refine below_drewN ?_ _ | refine Below.drew ?_ | refine Below.trans ?_ (Below.mono hb3 (by first | (simp; done) | omega | (simp; omega))) | refine Below.alloc ?_ (by first | (simp; done) | omega | (simp; omega)) _)
  have dc : (c != 0) = true := by simpa using hc
  clear hb3 B2 t0 t1 t2 t3 t4 t5 t6 t7 t8 t9 t10 t11 p0 p1 p2 p3 q0 q1 q2 q3 hc
  go_wp2
  go_ret
  refine ⟨rfl, ?_⟩
  repeat (first | with_reducible exact Below.refl _ _ | with_reducible exact B3 | ((with_reducible refine Below.setCell ?_ ?_ _); rotate_left; (· first | (simp; done) | omega | (simp; omega))) | with_reducible refine below_drewN ?_ _ | with_reducible refine Below.drew ?_ | ((with_reducible refine Below.alloc ?_ ?_ _); rotate_left; (· first | (simp; done) | omega | (simp; omega))) | exact Below.refl _ _ | exact B3 | refine Below.setCell ?_ (by first | (simp; done) | omega | (simp; omega)) _ | refine below_drewN ?_ _ | refine Below.drew ?_ | refine Below.alloc ?_ (by first | (simp; done) | omega | (simp; omega)) _)
theorem law (m0 : Int) (f0 : Bool) (r0 m1 : Int) (f1 : Bool) (r1 m2 : Int) (f2 : Bool) (r2 m3 : Int) (f3 : Bool) (r3 : Int) (o0 o1 o2 o3 a0 a1 a2 a3 : Bool) (w : World) (hm0 : -9223372036854775808 ≤ m0 ∧ m0 ≤ 9223372036854775807) (hr0 : -9223372036854775808 ≤ r0 ∧ r0 ≤ 9223372036854775807) (hm1 : -9223372036854775808 ≤ m1 ∧ m1 ≤ 9223372036854775807) (hr1 : -9223372036854775808 ≤ r1 ∧ r1 ≤ 9223372036854775807) (hm2 : -9223372036854775808 ≤ m2 ∧ m2 ≤ 9223372036854775807) (hr2 : -9223372036854775808 ≤ r2 ∧ r2 ≤ 9223372036854775807) (hm3 : -9223372036854775808 ≤ m3 ∧ m3 ≤ 9223372036854775807) (hr3 : -9223372036854775808 ≤ r3 ∧ r3 ≤ 9223372036854775807) :
    Calls Try.prog 8 #[.agg #[.int .i64 m0, .bool f0, .int .i64 r0, .int .i64 m1, .bool f1, .int .i64 r1, .int .i64 m2, .bool f2, .int .i64 r2, .int .i64 m3, .bool f3, .int .i64 r3], .agg #[.bool o0, .bool o1, .bool o2, .bool o3], .agg #[.bool a0, .bool a1, .bool a2, .bool a3]] w fun e w' => e = .returned (.bool true) ∧ Below w.heap.size w w' := by
  by_cases h : ∀ j, j < 4 → OkS (sel4 (m0, f0, r0) (m1, f1, r1) (m2, f2, r2) (m3, f3, r3) j)
  · exact yes (sel4 (m0, f0, r0) (m1, f1, r1) (m2, f2, r2) (m3, f3, r3)) o0 o1 o2 o3 a0 a1 a2 a3 w h
  · refine no (sel4 (m0, f0, r0) (m1, f1, r1) (m2, f2, r2) (m3, f3, r3)) o0 o1 o2 o3 a0 a1 a2 a3 w (fun j hj => ?_) h
    rcases (by omega : j = 0 ∨ j = 1 ∨ j = 2 ∨ j = 3) with rfl | rfl | rfl | rfl
    · exact ⟨hm0, hr0⟩
    · exact ⟨hm1, hr1⟩
    · exact ⟨hm2, hr2⟩
    · exact ⟨hm3, hr3⟩
set_option maxRecDepth 100000 in
theorem lifted (os : Os) (started : os.Started) (H : Type) (enc : TypeId × Value → H) :
    ReturnsInHanded {} Try.checked os 8 .any (Rows.redLowestSpec.pre6 enc Try.prog Try.f8 Rows.redLowestRow.domain false) (Rows.redLowestSpec.post enc Try.prog Try.f8 false true false false) := by
  refine returnsInHanded_of_change (C := Try.checked) own started (by kernel_rfl) Try.func8
    (ChangeSpec.witness6 (enc := enc) (C := Try.checked) false ⟨#[], #[.agg #[.int .i64 0, .bool false, .int .i64 0, .int .i64 0, .bool false, .int .i64 0, .int .i64 0, .bool false, .int .i64 0, .int .i64 0, .bool false, .int .i64 0], .agg #[.bool false, .bool false, .bool false, .bool false], .agg #[.bool false, .bool false, .bool false, .bool false]], []⟩ 8 (by kernel_rfl) (by kernel_rfl) (by kernel_rfl) (by kernel_rfl)) ?_
  intro W base args ds gs before hval0 hW hcnd _
  have hval : ∀ (j : Nat) t v, Try.f8.params[j]? = some t → args[j]? = some v → Value.okWide Try.prog W .any base t v := hval0
  have hW' := hW
  obtain ⟨p, q, hA0, hV, rfl, hfz, hnd⟩ := hW
  have hA : DataW.TrodAll enc Try.prog W 0 (fun _ => true) true Try.f8.params.toList args.toList ds p := hA0
  rw [Try.params8] at hA hval
  obtain ⟨v0, vs0, d0, ds0, p0, q0, hargs, rfl, rfl, h0, r0⟩ := trodAll_cons hA
  obtain ⟨v1, vs1, d1, ds1, p1, q1, rfl, rfl, rfl, h1, r1⟩ := trodAll_cons r0
  obtain ⟨v2, vs2, d2, ds2, p2, q2, rfl, rfl, rfl, h2, r2⟩ := trodAll_cons r1
  obtain ⟨rfl, rfl, rfl⟩ := trodAll_nil r2
  obtain rfl : args = #[v0, v1, v2] := by cases args; simp_all
  obtain ⟨rfl, rfl⟩ := trodVars_none hV
  have k0 := h0
  have lt0 : ∀ x ∈ p0, x.block < W.heap.size := by obtain ⟨m, hm⟩ := k0; exact DataW.trod_lt m _ _ _ hm
  have k1 := h1
  have lt1 : ∀ x ∈ p1, x.block < W.heap.size := by obtain ⟨m, hm⟩ := k1; exact DataW.trod_lt m _ _ _ hm
  have k2 := h2
  have lt2 : ∀ x ∈ p2, x.block < W.heap.size := by obtain ⟨m, hm⟩ := k2; exact DataW.trod_lt m _ _ _ hm
  obtain ⟨cs0, rfl, lf0_0⟩ := open_flat 12 [3, 4, 3, 3, 4, 3, 3, 4, 3, 3, 4, 3] (by kernel_rfl) (by kernel_rfl) (by kernel_rfl) (hval 0 41 v0 rfl rfl) h0
  obtain ⟨c0_0, r0_0, rfl, y0_0, lf0_1⟩ := leafs_cons lf0_0
  obtain ⟨a0_0, rfl, w0_0⟩ := leaf_int Try.underlying3 y0_0
  obtain ⟨c0_1, r0_1, rfl, y0_1, lf0_2⟩ := leafs_cons lf0_1
  obtain ⟨a0_1, rfl⟩ := leaf_bool Try.underlying4 y0_1
  obtain ⟨c0_2, r0_2, rfl, y0_2, lf0_3⟩ := leafs_cons lf0_2
  obtain ⟨a0_2, rfl, w0_2⟩ := leaf_int Try.underlying3 y0_2
  obtain ⟨c0_3, r0_3, rfl, y0_3, lf0_4⟩ := leafs_cons lf0_3
  obtain ⟨a0_3, rfl, w0_3⟩ := leaf_int Try.underlying3 y0_3
  obtain ⟨c0_4, r0_4, rfl, y0_4, lf0_5⟩ := leafs_cons lf0_4
  obtain ⟨a0_4, rfl⟩ := leaf_bool Try.underlying4 y0_4
  obtain ⟨c0_5, r0_5, rfl, y0_5, lf0_6⟩ := leafs_cons lf0_5
  obtain ⟨a0_5, rfl, w0_5⟩ := leaf_int Try.underlying3 y0_5
  obtain ⟨c0_6, r0_6, rfl, y0_6, lf0_7⟩ := leafs_cons lf0_6
  obtain ⟨a0_6, rfl, w0_6⟩ := leaf_int Try.underlying3 y0_6
  obtain ⟨c0_7, r0_7, rfl, y0_7, lf0_8⟩ := leafs_cons lf0_7
  obtain ⟨a0_7, rfl⟩ := leaf_bool Try.underlying4 y0_7
  obtain ⟨c0_8, r0_8, rfl, y0_8, lf0_9⟩ := leafs_cons lf0_8
  obtain ⟨a0_8, rfl, w0_8⟩ := leaf_int Try.underlying3 y0_8
  obtain ⟨c0_9, r0_9, rfl, y0_9, lf0_10⟩ := leafs_cons lf0_9
  obtain ⟨a0_9, rfl, w0_9⟩ := leaf_int Try.underlying3 y0_9
  obtain ⟨c0_10, r0_10, rfl, y0_10, lf0_11⟩ := leafs_cons lf0_10
  obtain ⟨a0_10, rfl⟩ := leaf_bool Try.underlying4 y0_10
  obtain ⟨c0_11, r0_11, rfl, y0_11, lf0_12⟩ := leafs_cons lf0_11
  obtain ⟨a0_11, rfl, w0_11⟩ := leaf_int Try.underlying3 y0_11
  obtain rfl := leafs_nil lf0_12
  obtain ⟨cs1, rfl, lf1_0⟩ := open_flat 12 [4, 4, 4, 4] (by kernel_rfl) (by kernel_rfl) (by kernel_rfl) (hval 1 42 v1 rfl rfl) h1
  obtain ⟨c1_0, r1_0, rfl, y1_0, lf1_1⟩ := leafs_cons lf1_0
  obtain ⟨a1_0, rfl⟩ := leaf_bool Try.underlying4 y1_0
  obtain ⟨c1_1, r1_1, rfl, y1_1, lf1_2⟩ := leafs_cons lf1_1
  obtain ⟨a1_1, rfl⟩ := leaf_bool Try.underlying4 y1_1
  obtain ⟨c1_2, r1_2, rfl, y1_2, lf1_3⟩ := leafs_cons lf1_2
  obtain ⟨a1_2, rfl⟩ := leaf_bool Try.underlying4 y1_2
  obtain ⟨c1_3, r1_3, rfl, y1_3, lf1_4⟩ := leafs_cons lf1_3
  obtain ⟨a1_3, rfl⟩ := leaf_bool Try.underlying4 y1_3
  obtain rfl := leafs_nil lf1_4
  obtain ⟨cs2, rfl, lf2_0⟩ := open_flat 12 [4, 4, 4, 4] (by kernel_rfl) (by kernel_rfl) (by kernel_rfl) (hval 2 42 v2 rfl rfl) h2
  obtain ⟨c2_0, r2_0, rfl, y2_0, lf2_1⟩ := leafs_cons lf2_0
  obtain ⟨a2_0, rfl⟩ := leaf_bool Try.underlying4 y2_0
  obtain ⟨c2_1, r2_1, rfl, y2_1, lf2_2⟩ := leafs_cons lf2_1
  obtain ⟨a2_1, rfl⟩ := leaf_bool Try.underlying4 y2_1
  obtain ⟨c2_2, r2_2, rfl, y2_2, lf2_3⟩ := leafs_cons lf2_2
  obtain ⟨a2_2, rfl⟩ := leaf_bool Try.underlying4 y2_2
  obtain ⟨c2_3, r2_3, rfl, y2_3, lf2_4⟩ := leafs_cons lf2_3
  obtain ⟨a2_3, rfl⟩ := leaf_bool Try.underlying4 y2_3
  obtain rfl := leafs_nil lf2_4
  clear hA0 hval0
  refine (law a0_0 a0_1 a0_2 a0_3 a0_4 a0_5 a0_6 a0_7 a0_8 a0_9 a0_10 a0_11 a1_0 a1_1 a1_2 a1_3 a2_0 a2_1 a2_2 a2_3 W (bounds_i64 w0_0) (bounds_i64 w0_2) (bounds_i64 w0_3) (bounds_i64 w0_5) (bounds_i64 w0_6) (bounds_i64 w0_8) (bounds_i64 w0_9) (bounds_i64 w0_11)).mono fun e W' ⟨he, bel⟩ => ?_
  subst he
  exact ⟨_, rfl, _, _, _, [], _, [], hW', trodAll_mk1 (shut_bool Try.underlying4 _), (trodAll_cons_mk (Below.trod laidOut (by kernel_rfl) (of_decide_eq_true (by kernel_rfl)) k0 bel lt0) (trodAll_cons_mk (Below.trod laidOut (by kernel_rfl) (of_decide_eq_true (by kernel_rfl)) k1 bel lt1) (trodAll_cons_mk (Below.trod laidOut (by kernel_rfl) (of_decide_eq_true (by kernel_rfl)) k2 bel lt2) trodAll_mk0))), rfl, bel.frame _, fun h => by cases h⟩
theorem over : Rows.redLowestRow.holds Try.pinned (OpenSpec.ofChange Rows.redLowestSpec) :=
  OpenClaim.holds_of_wide 8 Try.f8 rfl rfl rfl rfl rfl rfl rfl ⟨rfl, rfl, rfl, rfl, rfl⟩ rfl rfl rfl rfl rfl (by kernel_rfl) Try.func8 (by kernel_rfl)
    (of_decide_eq_true (by kernel_rfl)) (by unfold Func.isWrapper; first | (rw [if_pos (by decide +kernel)]; kernel_rfl) | (rw [if_neg (by decide +kernel)]; exact ⟨rfl, rfl⟩))
    (fun os started H enc _ => lifted os started H enc)
theorem proved : Rows.RedLowestSaid := over
#print axioms proved

end Go.Proofs.Ytfifckcjadbiiaa.redLowest
