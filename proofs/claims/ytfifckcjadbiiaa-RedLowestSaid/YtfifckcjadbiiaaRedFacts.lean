/- What red.Plan does of a team that is not right; what a plan comes to, lane by lane. -/
import Derived.Test.YtfifckcjadbiiaaRedPlan
namespace Go.Proofs.Ytfifckcjadbiiaa
open Go.ChangeShapes Go.WideShapes Go.ChangeAt Go.RowKit
set_option linter.unusedVariables false

/-- how many of the first k may be used -/
def rankU (fs os : Nat → Bool) : Nat → Nat
  | 0 => 0
  | k + 1 => rankU fs os k + if (!fs k && os k) = true then 1 else 0
theorem usl_rank (fs os : Nat → Bool) (k : Nat) : (usl fs os k).length = rankU fs os k := by
  induction k with
  | zero => rfl
  | succ k ih =>
    by_cases h : (!fs k && os k) = true
    · rw [usl_take h]; simp [rankU, h, ih]
    · rw [usl_keep (by simpa using h)]; simp [rankU, h, ih]
/-- what becomes of a lane, by how many may be used, whether it may, and how many ahead of it may -/
def endS (n : Nat) (u : Bool) (k : Nat) (s : Int × Bool × Int) : Int × Bool × Int :=
  if n = 0 then nx s 5 else if u = true then nx (freeS 0 s) (if k < 2 then 1 else 2) else freeS 0 s
theorem chooseT_lane (T : Team) (fs os : Nat → Bool) (j : Nat) (hj : j < 4) :
    chooseT T (usl fs os 4) j = endS (rankU fs os 4) (!fs j && os j) (rankU fs os j) (T j) := by
  have e : ∀ j, freeS j = freeS 0 := fun _ => rfl
  generalize h0 : (!fs 0 && os 0) = b0
  generalize h1 : (!fs 1 && os 1) = b1
  generalize h2 : (!fs 2 && os 2) = b2
  generalize h3 : (!fs 3 && os 3) = b3
  have hd : ∀ s, dampS j s = nx s 5 := fun _ => rfl
  rcases (by omega : j = 0 ∨ j = 1 ∨ j = 2 ∨ j = 3) with rfl | rfl | rfl | rfl <;> cases b0 <;> cases b1 <;> cases b2 <;> cases b3 <;>
    simp only [usl, rankU, h0, h1, h2, h3, endS, chooseT, List.nil_append, List.cons_append, List.length_nil, List.length_cons, if_true, if_false, Bool.false_eq_true, Nat.add_zero, Nat.zero_add, Nat.reduceAdd, Nat.reduceEqDiff] <;>
    simp [armT, upd, tk, e, dampS]
/-- a lane's mode behind a plan -/
def endM (n : Nat) (u : Bool) (k : Nat) (f : Bool) : Int := if n = 0 then 3 else if u = true then (if k < 2 then 1 else 0) else if f = true then 2 else 0
theorem lane_end {s : Int × Bool × Int} (h : OkS s) (fl os : Bool) (n k : Nat) (a : Int × Bool × Int) (ha : hitS (fun _ => fl) (fun _ => os) 0 s = a) :
    a.2.1 = (s.2.1 || fl) ∧ (endS n (!a.2.1 && os) k a).1 = endM n (!(s.2.1 || fl) && os) k (s.2.1 || fl) ∧ (endS n (!a.2.1 && os) k a).2.1 = (s.2.1 || fl) := by
  subst ha
  obtain ⟨m, f, r⟩ := s
  obtain ⟨hm, -⟩ := h
  simp only at hm
  have hk : (if k < 2 then (1 : Int) else 2) = 1 ∧ k < 2 ∨ (if k < 2 then (1 : Int) else 2) = 2 ∧ ¬ k < 2 := by by_cases hk : k < 2 <;> simp [hk]
  by_cases hn : n = 0
  · simp only [endS, endM, if_pos hn]
    rcases hm with ⟨rfl, rfl⟩ | ⟨rfl, rfl⟩ | ⟨rfl, rfl⟩ | ⟨rfl, rfl⟩ | ⟨rfl, rfl⟩ <;> cases fl <;> cases os <;> simp [hitS, nx, nextI, turnB, turnV, turnI]
  · simp only [endS, endM, if_neg hn]
    rcases hk with ⟨e, hk⟩ | ⟨e, hk⟩ <;> simp only [hk, if_true, if_false] <;>
      rcases hm with ⟨rfl, rfl⟩ | ⟨rfl, rfl⟩ | ⟨rfl, rfl⟩ | ⟨rfl, rfl⟩ | ⟨rfl, rfl⟩ <;> cases fl <;> cases os <;> simp [hitS, freeS, nx, nextI, turnB, turnV, turnI]
/-- which lanes failed behind a plan; how many may be used -/
def failP (T : Team) (fl : Nat → Bool) (j : Nat) : Bool := (T j).2.1 || fl j
def manyP (T : Team) (fl os : Nat → Bool) : Nat := rankU (failP T fl) os 4
theorem hit_at (T : Team) (fl os : Nat → Bool) (j : Nat) (hj : j < 4) : tk (hitS fl os) T 4 j = hitS (fun _ => fl j) (fun _ => os j) 0 (T j) := by
  unfold tk; rw [if_pos hj]; rfl
theorem usl_ext {fs gs os : Nat → Bool} (k : Nat) (h : ∀ j, j < k → fs j = gs j) : usl fs os k = usl gs os k := by
  induction k with
  | zero => rfl
  | succ k ih => simp only [usl]; rw [ih (fun j hj => h j (by omega)), h k (by omega)]
theorem planU_is (T : Team) (fl os : Nat → Bool) (hok : ∀ j, j < 4 → OkS (T j)) : planU T fl os = usl (failP T fl) os 4 := by
  unfold planU
  refine usl_ext 4 fun j hj => ?_
  have key : ∀ j, j < 4 → (tk (hitS fl os) T 4 j).2.1 = failP T fl j := fun j hj => by
    rw [hit_at T fl os j hj]; exact (lane_end (hok j hj) (fl j) (os j) 0 0 _ rfl).1
  rw [← key j hj]
  rcases (by omega : j = 0 ∨ j = 1 ∨ j = 2 ∨ j = 3) with rfl | rfl | rfl | rfl <;> rfl
theorem planU_len (T : Team) (fl os : Nat → Bool) (hok : ∀ j, j < 4 → OkS (T j)) : (planU T fl os).length = manyP T fl os := by
  rw [planU_is T fl os hok, usl_rank]; rfl
theorem planC_lane (T : Team) (fl os : Nat → Bool) (hok : ∀ j, j < 4 → OkS (T j)) (j : Nat) (hj : j < 4) :
    (planC T fl os j).1 = endM (manyP T fl os) (!failP T fl j && os j) (rankU (failP T fl) os j) (failP T fl j) ∧ (planC T fl os j).2.1 = failP T fl j := by
  have hl := lane_end (hok j hj) (fl j) (os j) (manyP T fl os) (rankU (failP T fl) os j) _ rfl
  have hu : planC T fl os = chooseT (tk (hitS fl os) T 4) (usl (failP T fl) os 4) := by unfold planC; rw [planU_is T fl os hok]
  rw [hu, chooseT_lane _ _ _ _ hj, hit_at T fl os j hj]
  have e : (hitS (fun _ => fl j) (fun _ => os j) 0 (T j)).2.1 = failP T fl j := hl.1
  rw [← e]
  refine ⟨?_, ?_⟩
  · have := hl.2.1
    rw [e] at this ⊢
    exact this
  · have := hl.2.2
    rw [e] at this ⊢
    exact this
theorem planC_ok (T : Team) (fl os : Nat → Bool) (hok : ∀ j, j < 4 → OkS (T j)) : ∀ j, j < 4 → OkS (planC T fl os j) :=
  chooseT_ok (fun j hj => by unfold tk; rw [if_pos hj]; exact hit_ok (hok j hj))
theorem planT_lane (T : Team) (fl os : Nat → Bool) (hok : ∀ j, j < 4 → OkS (T j)) (j : Nat) (hj : j < 4) :
    (planT T fl os j).1 = endM (manyP T fl os) (!failP T fl j && os j) (rankU (failP T fl) os j) (failP T fl j) ∧ (planT T fl os j).2.1 = failP T fl j ∧ OkS (planT T fl os j) ∧
      ((planC T fl os j).1 = (T j).1 → (planT T fl os j).2.2 = min 10000 ((T j).2.2 + 1)) := by
  have h := planC_lane T fl os hok j hj
  have ho := planC_ok T fl os hok j hj
  have e : planT T fl os j = stayS T j (planC T fl os j) := by unfold planT tk; rw [if_pos hj]
  rw [e]
  unfold stayS
  by_cases hm : (planC T fl os j).1 = (T j).1
  · rw [if_pos hm]
    have hb := (hok j hj).2
    exact ⟨h.1, h.2, ⟨ho.1, by simp only; omega, by simp only; omega⟩, fun _ => rfl⟩
  · rw [if_neg hm]
    exact ⟨h.1, h.2, ho, fun h => absurd h hm⟩
theorem actI_planT (T : Team) (fl os : Nat → Bool) (hok : ∀ j, j < 4 → OkS (T j)) (k : Nat) (hk : k ≤ 4) : actI (planC T fl os) k = actI (planT T fl os) k := by
  induction k with
  | zero => rfl
  | succ k ih =>
    simp only [actI]
    rw [ih (by omega), (planC_lane T fl os hok k (by omega)).1, (planT_lane T fl os hok k (by omega)).1]
/-- a plan of a plan, with nothing new -/
theorem plan_again (T : Team) (fl os : Nat → Bool) (hok : ∀ j, j < 4 → OkS (T j)) :
    (planU (planT T fl os) (fun _ => false) os).length = (planU T fl os).length ∧ actI (planC (planT T fl os) (fun _ => false) os) 4 = actI (planC T fl os) 4 ∧
    ∀ j, j < 4 → (planT (planT T fl os) (fun _ => false) os j).1 = (planT T fl os j).1 ∧ (planT (planT T fl os) (fun _ => false) os j).2.1 = (planT T fl os j).2.1 ∧
      (planT (planT T fl os) (fun _ => false) os j).2.2 = min 10000 ((planT T fl os j).2.2 + 1) := by
  have hX : ∀ j, j < 4 → OkS (planT T fl os j) := fun j hj => (planT_lane T fl os hok j hj).2.2.1
  have hf : ∀ j, j < 4 → failP (planT T fl os) (fun _ => false) j = failP T fl j := fun j hj => by
    unfold failP; rw [(planT_lane T fl os hok j hj).2.1, Bool.or_false]; rfl
  have hr : ∀ k, k ≤ 4 → rankU (failP (planT T fl os) (fun _ => false)) os k = rankU (failP T fl) os k := by
    intro k
    induction k with
    | zero => intro _; rfl
    | succ k ih => intro hk; simp only [rankU]; rw [ih (by omega), hf k (by omega)]
  have hm : manyP (planT T fl os) (fun _ => false) os = manyP T fl os := hr 4 (by omega)
  have key : ∀ j, j < 4 → (planT (planT T fl os) (fun _ => false) os j).1 = (planT T fl os j).1 := fun j hj => by
    rw [(planT_lane _ _ _ hX j hj).1, (planT_lane T fl os hok j hj).1, hm, hf j hj, hr j (by omega)]
  have hact : ∀ k, k ≤ 4 → actI (planT (planT T fl os) (fun _ => false) os) k = actI (planT T fl os) k := by
    intro k
    induction k with
    | zero => intro _; rfl
    | succ k ih => intro hk; simp only [actI]; rw [ih (by omega), key k (by omega)]
  refine ⟨by rw [planU_len _ _ _ hX, planU_len T fl os hok, hm], ?_, fun j hj => ⟨key j hj, ?_, ?_⟩⟩
  · rw [actI_planT _ _ _ hX 4 (by omega), actI_planT T fl os hok 4 (by omega), hact 4 (by omega)]
  · rw [(planT_lane _ _ _ hX j hj).2.1, hf j hj, (planT_lane T fl os hok j hj).2.1]
  · refine (planT_lane _ _ _ hX j hj).2.2.2 ?_
    rw [(planC_lane _ _ _ hX j hj).1, (planT_lane T fl os hok j hj).1, hm, hf j hj, hr j (by omega)]
theorem plan_is (T : Team) (o0 o1 o2 o3 a0 a1 a2 a3 : Bool) (w : World) (hok : ∀ j, j < 4 → OkS (T j)) (X : Team) (n a : Int) (L : Bool)
    (h : planT T (sel4 a0 a1 a2 a3) (sel4 o0 o1 o2 o3) = X ∧ ((planU T (sel4 a0 a1 a2 a3) (sel4 o0 o1 o2 o3)).length : Int) = n ∧ actI (planC T (sel4 a0 a1 a2 a3) (sel4 o0 o1 o2 o3)) 4 = a ∧ (n == 0) = L) :
    Calls Try.prog 17 #[teamV T, .agg #[.bool o0, .bool o1, .bool o2, .bool o3], .agg #[.bool a0, .bool a1, .bool a2, .bool a3]] w
      fun e w' => e = .returned (.tuple #[teamV X, .agg #[.int .i64 n, .int .i64 a, .bool L], .int .i64 0]) ∧ Below w.heap.size w w' := by
  obtain ⟨rfl, rfl, rfl, rfl⟩ := h
  exact (plan_yes T o0 o1 o2 o3 a0 a1 a2 a3 w hok).mono fun e w' h => h
/-- a plan of a plan, as a value -/
theorem plan_two (X : Team) (o0 o1 o2 o3 : Bool) (w : World) (hok : ∀ j, j < 4 → OkS (X j)) (n a : Int) (L : Bool) (r0 r1 r2 r3 : Int)
    (hn : ((planU X (fun _ => false) (sel4 o0 o1 o2 o3)).length : Int) = n) (ha : actI (planC X (fun _ => false) (sel4 o0 o1 o2 o3)) 4 = a) (hL : (n == 0) = L)
    (hr : min 10000 ((X 0).2.2 + 1) = r0 ∧ min 10000 ((X 1).2.2 + 1) = r1 ∧ min 10000 ((X 2).2.2 + 1) = r2 ∧ min 10000 ((X 3).2.2 + 1) = r3)
    (hx : ∀ j, j < 4 → (planT X (fun _ => false) (sel4 o0 o1 o2 o3) j).1 = (X j).1 ∧ (planT X (fun _ => false) (sel4 o0 o1 o2 o3) j).2.1 = (X j).2.1 ∧ (planT X (fun _ => false) (sel4 o0 o1 o2 o3) j).2.2 = min 10000 ((X j).2.2 + 1)) :
    Calls Try.prog 17 #[teamV X, .agg #[.bool o0, .bool o1, .bool o2, .bool o3], .agg #[.bool false, .bool false, .bool false, .bool false]] w
      fun e w' => e = .returned (.tuple #[.agg #[.int .i64 (X 0).1, .bool (X 0).2.1, .int .i64 r0, .int .i64 (X 1).1, .bool (X 1).2.1, .int .i64 r1, .int .i64 (X 2).1, .bool (X 2).2.1, .int .i64 r2, .int .i64 (X 3).1, .bool (X 3).2.1, .int .i64 r3], .agg #[.int .i64 n, .int .i64 a, .bool L], .int .i64 0]) ∧ Below w.heap.size w w' := by
  have hs : sel4 false false false false = fun _ => false := by funext j; unfold sel4; split <;> rfl
  refine (plan_is X o0 o1 o2 o3 false false false false w hok _ n a L ⟨rfl, by rw [hs]; exact hn, by rw [hs]; exact ha, hL⟩).mono fun e w' h => ⟨?_, h.2⟩
  rw [h.1, hs]
  obtain ⟨a0, b0, c0⟩ := hx 0 (by omega)
  obtain ⟨a1, b1, c1⟩ := hx 1 (by omega)
  obtain ⟨a2, b2, c2⟩ := hx 2 (by omega)
  obtain ⟨a3, b3, c3⟩ := hx 3 (by omega)
  obtain ⟨g0, g1, g2, g3⟩ := hr
  unfold teamV
  rw [a0, b0, c0, a1, b1, c1, a2, b2, c2, a3, b3, c3, g0, g1, g2, g3]
/-- how many of the first k are damped -/
def dmpI (T : Team) : Nat → Int
  | 0 => 0
  | k + 1 => dmpI T k + if (T k).1 = 3 then 1 else 0
theorem dmpI_bd (T : Team) (k : Nat) : 0 ≤ dmpI T k ∧ dmpI T k ≤ k := by
  induction k with
  | zero => simp [dmpI]
  | succ k ih => simp only [dmpI]; split <;> omega
theorem safe_one (T : Team) (fl os : Nat → Bool) (hok : ∀ j, j < 4 → OkS (T j)) (j : Nat) (hj : j < 4) :
    (fl j = true → (planT T fl os j).2.1 = true) ∧ ((planT T fl os j).1 = 1 → (planT T fl os j).2.1 = false ∧ os j = true) := by
  obtain ⟨h1, h2, h3, -⟩ := planT_lane T fl os hok j hj
  rw [h1, h2]
  refine ⟨fun h => by unfold failP; rw [h, Bool.or_true], fun h => ?_⟩
  unfold endM at h
  split at h
  · omega
  · split at h
    · rename_i hu
      cases hf : failP T fl j <;> rw [hf] at hu <;> simp at hu
      exact ⟨rfl, hu⟩
    · split at h <;> omega
theorem safe_many (T : Team) (fl os : Nat → Bool) (hok : ∀ j, j < 4 → OkS (T j)) (hn : manyP T fl os ≠ 0) (k : Nat) (hk : k ≤ 4) :
    actI (planT T fl os) k = min 2 ((rankU (failP T fl) os k : Nat) : Int) ∧ dmpI (planT T fl os) k = 0 := by
  induction k with
  | zero => exact ⟨rfl, rfl⟩
  | succ k ih =>
    obtain ⟨i1, i2⟩ := ih (by omega)
    simp only [actI, dmpI, rankU]
    rw [i1, i2, (planT_lane T fl os hok k (by omega)).1]
    unfold endM
    rw [if_neg hn]
    by_cases hu : (!failP T fl k && os k) = true
    · simp only [if_pos hu]
      by_cases hr : rankU (failP T fl) os k < 2
      · simp [hr]; omega
      · simp [hr]; omega
    · simp only [if_neg hu]
      cases failP T fl k <;> simp
theorem safe_none (T : Team) (fl os : Nat → Bool) (hok : ∀ j, j < 4 → OkS (T j)) (hn : manyP T fl os = 0) (k : Nat) (hk : k ≤ 4) :
    actI (planT T fl os) k = 0 ∧ dmpI (planT T fl os) k = k := by
  induction k with
  | zero => exact ⟨rfl, rfl⟩
  | succ k ih =>
    obtain ⟨i1, i2⟩ := ih (by omega)
    simp only [actI, dmpI]
    rw [i1, i2, (planT_lane T fl os hok k (by omega)).1]
    unfold endM
    rw [if_pos hn]
    simp
/-- all that RedSafe asks of a plan -/
theorem safe_all (T : Team) (fl os : Nat → Bool) (hok : ∀ j, j < 4 → OkS (T j)) :
    (∀ j, j < 4 → OkS (planT T fl os j) ∧ (fl j = true → (planT T fl os j).2.1 = true) ∧ ((planT T fl os j).1 = 1 → (planT T fl os j).2.1 = false ∧ os j = true)) ∧
    actI (planC T fl os) 4 = actI (planT T fl os) 4 ∧
    (((planU T fl os).length = 0 ∧ actI (planT T fl os) 4 = 0 ∧ dmpI (planT T fl os) 4 = 4) ∨
     (0 < (planU T fl os).length ∧ (planU T fl os).length ≤ 4 ∧ actI (planT T fl os) 4 = min 2 (((planU T fl os).length : Nat) : Int) ∧ dmpI (planT T fl os) 4 = 0)) := by
  refine ⟨fun j hj => ⟨(planT_lane T fl os hok j hj).2.2.1, safe_one T fl os hok j hj⟩, actI_planT T fl os hok 4 (by omega), ?_⟩
  rw [planU_len T fl os hok]
  by_cases hn : manyP T fl os = 0
  · exact .inl ⟨hn, safe_none T fl os hok hn 4 (by omega)⟩
  · have h := safe_many T fl os hok hn 4 (by omega)
    have hl := usl_len (failP T fl) os 4
    rw [usl_rank] at hl
    exact .inr ⟨by omega, hl, h.1, h.2⟩
theorem zero_ok : ∀ j, j < 4 → OkS ((fun _ => (0, false, 0) : Team) j) := fun j _ => ⟨.inl ⟨rfl, rfl⟩, by show (0 : Int) ≤ 0; omega, by show (0 : Int) ≤ 10000; omega⟩
/-- a plan of a team that is not right -/
def PlanNo (w : World) (e : Ending) (w' : World) : Prop := ∃ c : Int, c ≠ 0 ∧ e = .returned (.tuple #[teamV (fun _ => (0, false, 0)), .agg #[.int .i64 0, .int .i64 0, .bool false], .int .i64 c]) ∧ Below w.heap.size w w'
set_option maxHeartbeats 8000000 in
set_option maxRecDepth 100000 in
theorem plan_no (T : Team) (o0 o1 o2 o3 a0 a1 a2 a3 : Bool) (w : World) (hb : ∀ j, j < 4 → (-9223372036854775808 ≤ (T j).1 ∧ (T j).1 ≤ 9223372036854775807) ∧ -9223372036854775808 ≤ (T j).2.2 ∧ (T j).2.2 ≤ 9223372036854775807)
    (hno : ¬ ∀ j, j < 4 → OkS (T j)) :
    Calls Try.prog 17 #[teamV T, .agg #[.bool o0, .bool o1, .bool o2, .bool o3], .agg #[.bool a0, .bool a1, .bool a2, .bool a3]] w (PlanNo w) := by
  have hex : ∃ c, c ≠ 0 ∧ ((laneChk (T 0).1 (T 0).2.1 (T 0).2.2 = c ∧ c ≠ 0) ∨ (LaneOk (T 0).1 (T 0).2.1 (T 0).2.2 ∧ laneChk (T 1).1 (T 1).2.1 (T 1).2.2 = c ∧ c ≠ 0) ∨ (LaneOk (T 0).1 (T 0).2.1 (T 0).2.2 ∧ LaneOk (T 1).1 (T 1).2.1 (T 1).2.2 ∧ laneChk (T 2).1 (T 2).2.1 (T 2).2.2 = c ∧ c ≠ 0) ∨
      (LaneOk (T 0).1 (T 0).2.1 (T 0).2.2 ∧ LaneOk (T 1).1 (T 1).2.1 (T 1).2.2 ∧ LaneOk (T 2).1 (T 2).2.1 (T 2).2.2 ∧ laneChk (T 3).1 (T 3).2.1 (T 3).2.2 = c ∧ c ≠ 0)) := by
    by_cases c0 : laneChk (T 0).1 (T 0).2.1 (T 0).2.2 = 0
    · by_cases c1 : laneChk (T 1).1 (T 1).2.1 (T 1).2.2 = 0
      · by_cases c2 : laneChk (T 2).1 (T 2).2.1 (T 2).2.2 = 0
        · by_cases c3 : laneChk (T 3).1 (T 3).2.1 (T 3).2.2 = 0
          · exact absurd (fun (j : Nat) (hj : j < 4) => (by rcases (by omega : j = 0 ∨ j = 1 ∨ j = 2 ∨ j = 3) with rfl | rfl | rfl | rfl <;> first | exact laneChk_of c0 | exact laneChk_of c1 | exact laneChk_of c2 | exact laneChk_of c3 : OkS (T j))) hno
          · exact ⟨_, c3, .inr (.inr (.inr ⟨laneChk_of c0, laneChk_of c1, laneChk_of c2, rfl, c3⟩))⟩
        · exact ⟨_, c2, .inr (.inr (.inl ⟨laneChk_of c0, laneChk_of c1, rfl, c2⟩))⟩
      · exact ⟨_, c1, .inr (.inl ⟨laneChk_of c0, rfl, c1⟩)⟩
    · exact ⟨_, c0, .inl ⟨rfl, c0⟩⟩
  obtain ⟨c, hc, hh⟩ := hex
  have HH := Lib.hid hh; have HB := Lib.hid hb; have HC := Lib.hid hc
  have d : (c != 0) = true := by simpa using hc
  clear hno hh hb hc
  go_enter Try.func17, Try.ntmps17
  go_wp2_with fail
  refine (redCheck_no _ _ _ _ _ _ _ _ _ _ _ _ _ (HB.out 0 (by omega)).1 (HB.out 0 (by omega)).2 (HB.out 1 (by omega)).1 (HB.out 1 (by omega)).2 (HB.out 2 (by omega)).1 (HB.out 2 (by omega)).2 (HB.out 3 (by omega)).1 (HB.out 3 (by omega)).2 c HH.out).mono ?_
  rintro e1 w1 ⟨rfl, hb1⟩
  have z1 := hb1.size
  simp at z1
  have B1 : Below w.heap.size w w1 := by repeat (first | with_reducible exact Below.refl _ _ | ((with_reducible refine Below.setCell ?_ ?_ _); rotate_left; (· first | (simp; done) | omega | (simp; omega))) | with_reducible refine below_drewN ?_ _ | with_reducible refine Below.drew ?_ | ((with_reducible refine Below.trans ?_ (Below.mono hb1 ?_)); rotate_left; (· first | (simp; done) | omega | (simp; omega))) | ((with_reducible refine Below.alloc ?_ ?_ _); rotate_left; (· first | (simp; done) | omega | (simp; omega))) | exact Below.refl _ _ | refine Below.setCell ?_ (by first | (simp; done) | omega | (simp; omega)) _ | refine below_drewN ?_ _ | refine Below.drew ?_ | refine Below.trans ?_ (Below.mono hb1 (by first | (simp; done) | omega | (simp; omega))) | refine Below.alloc ?_ (by first | (simp; done) | omega | (simp; omega)) _)
  have x0 : w1.cell? ⟨w.heap.size + 1 + 1 + 1, 0, none⟩ = some (.int .i64 0) := cell_later hb1 (by go_simp)
  have x1 : w1.cell? ⟨w.heap.size + 1 + 1 + 1, 1, none⟩ = some (.bool false) := cell_later hb1 (by go_simp)
  have x2 : w1.cell? ⟨w.heap.size + 1 + 1 + 1, 2, none⟩ = some (.int .i64 0) := cell_later hb1 (by go_simp)
  have x3 : w1.cell? ⟨w.heap.size + 1 + 1 + 1, 3, none⟩ = some (.int .i64 0) := cell_later hb1 (by go_simp)
  have x4 : w1.cell? ⟨w.heap.size + 1 + 1 + 1, 4, none⟩ = some (.bool false) := cell_later hb1 (by go_simp)
  have x5 : w1.cell? ⟨w.heap.size + 1 + 1 + 1, 5, none⟩ = some (.int .i64 0) := cell_later hb1 (by go_simp)
  have x6 : w1.cell? ⟨w.heap.size + 1 + 1 + 1, 6, none⟩ = some (.int .i64 0) := cell_later hb1 (by go_simp)
  have x7 : w1.cell? ⟨w.heap.size + 1 + 1 + 1, 7, none⟩ = some (.bool false) := cell_later hb1 (by go_simp)
  have x8 : w1.cell? ⟨w.heap.size + 1 + 1 + 1, 8, none⟩ = some (.int .i64 0) := cell_later hb1 (by go_simp)
  have x9 : w1.cell? ⟨w.heap.size + 1 + 1 + 1, 9, none⟩ = some (.int .i64 0) := cell_later hb1 (by go_simp)
  have x10 : w1.cell? ⟨w.heap.size + 1 + 1 + 1, 10, none⟩ = some (.bool false) := cell_later hb1 (by go_simp)
  have x11 : w1.cell? ⟨w.heap.size + 1 + 1 + 1, 11, none⟩ = some (.int .i64 0) := cell_later hb1 (by go_simp)
  have xf : ∀ o, w1.frozen? ⟨w.heap.size + 1 + 1 + 1, o, none⟩ = false := fun o => by rw [hb1.frozen (by first | (simp; done) | omega | (simp; omega))]; go_simp
  have y0 : w1.cell? ⟨w.heap.size + 1 + 1 + 1 + 1, 0, none⟩ = some (.int .i64 0) := cell_later hb1 (by go_simp)
  have y1 : w1.cell? ⟨w.heap.size + 1 + 1 + 1 + 1, 1, none⟩ = some (.int .i64 0) := cell_later hb1 (by go_simp)
  have y2 : w1.cell? ⟨w.heap.size + 1 + 1 + 1 + 1, 2, none⟩ = some (.bool false) := cell_later hb1 (by go_simp)
  have yf : ∀ o, w1.frozen? ⟨w.heap.size + 1 + 1 + 1 + 1, o, none⟩ = false := fun o => by rw [hb1.frozen (by first | (simp; done) | omega | (simp; omega))]; go_simp
  have s1 : w.heap.size + 1 + 1 + 1 + 1 < w1.heap.size := by omega
  have hX : TeamAt w1 (w.heap.size + 1 + 1 + 1) (fun _ => (0, false, 0)) := team12 (T := fun _ => (0, false, 0)) xf x0 x1 x2 x3 x4 x5 x6 x7 x8 x9 x10 x11
  have hY : RepAt w1 (w.heap.size + 1 + 1 + 1 + 1) 0 0 false := ⟨y0, y1, y2, yf⟩
  have HX := Lib.hid hX; have HY := Lib.hid hY
  clear hX hY hb1
  go_wp2
  have hW := team_write HX.out (fun _ => (0, false, 0))
  have hWg := team_grown w1 (w.heap.size + 1 + 1 + 1) (fun _ => (0, false, 0))
  have hY8 := HY.out.kept hWg (by omega)
  have hV := rep_write hY8 0 0 false
  have hVg : World.grownBy _ _ _ := grown_three' (w := wrTeam w1 (w.heap.size + 1 + 1 + 1) (fun _ => (0, false, 0))) (b := w.heap.size + 1 + 1 + 1 + 1) 0 1 2 (.int .i64 0) (.int .i64 0) (.bool false)
  have hW2 := hW.kept hVg (by omega)
  have HB9 : Below w.heap.size w _ := (B1.grown hWg (by omega) (fun k e => by cases e; omega)).grown hVg (by have := hWg.size; omega) (fun k e => by cases e; omega)
  unfold wrTeam at hV hW2 HB9
  clear hW hWg hY8 hVg
  generalize hw9 : ((((((((((((((((w1.setCell _ _).setCell _ _).setCell _ _).setCell _ _).setCell _ _).setCell _ _).setCell _ _).setCell _ _).setCell _ _).setCell _ _).setCell _ _).setCell _ _).setCell _ _).setCell _ _).setCell _ _)) = w9 at hV hW2 HB9 ⊢
  clear hw9
  clear x0 x1 x2 x3 x4 x5 x6 x7 x8 x9 x10 x11 y0 y1 y2 xf yf
  obtain ⟨t0, t1, t2⟩ := hW2.1 0 (by omega)
  obtain ⟨t3, t4, t5⟩ := hW2.1 1 (by omega)
  obtain ⟨t6, t7, t8⟩ := hW2.1 2 (by omega)
  obtain ⟨t9, t10, t11⟩ := hW2.1 3 (by omega)
  simp only [Nat.mul_zero, Nat.zero_add, Nat.reduceMul, Nat.reduceAdd] at t0 t1 t2 t3 t4 t5 t6 t7 t8 t9 t10 t11
  obtain ⟨r0, r1, r2, -⟩ := hV
  exact bodyPost_ret (v := .tuple #[teamV (fun _ => (0, false, 0)), .agg #[.int .i64 0, .int .i64 0, .bool false], .int .i64 c]) (by simp [results, Try.results17, go_sem, t0, t1, t2, t3, t4, t5, t6, t7, t8, t9, t10, t11, r0, r1, r2]) rfl ⟨c, HC.out, rfl, HB9⟩

end Go.Proofs.Ytfifckcjadbiiaa
