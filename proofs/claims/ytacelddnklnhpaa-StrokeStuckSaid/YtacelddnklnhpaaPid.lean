/- What the functions of package pid compute. -/
import Derived.Test.YtacelddnklnhpaaFix
import Derived.Deep.DeepCutAuto
import Derived.Lib.Hide
import Derived.BigQuiet
import Derived.Deep.QuietTactic
namespace Go.Proofs.Ytacelddnklnhpaa
open Go.ChangeShapes Go.WideShapes Go.ChangeAt Go.RowKit
set_option linter.unusedVariables false

def pidBad (low high sum : Int) : Prop := high < low ∨ sum < low ∨ high < sum
theorem pidCheck_yes (P I D low high sum last : Int) (w : World) (h : ¬ pidBad low high sum) :
    Calls Try.prog 50 #[.agg #[.int .i32 P, .int .i32 I, .int .i32 D, .int .i32 low, .int .i32 high], .agg #[.int .i32 sum, .int .i32 last]] w fun e w' => e = .returned (.int .i64 0) ∧ Below w.heap.size w w' := by
  obtain ⟨h1, h2, h3⟩ : decide (high < low) = false ∧ decide (sum < low) = false ∧ decide (high < sum) = false := by
    simp only [decide_eq_false_iff_not]; unfold pidBad at h; omega
  clear h
  go_enter Try.func50, Try.ntmps50
  go_wp2
  go_ret
  exact ⟨rfl, (((Below.refl _ _).alloc (Nat.le_refl _) _).alloc (by simp) _)⟩
theorem pidCheck_no (P I D low high sum last : Int) (w : World) (h : pidBad low high sum) :
    Calls Try.prog 50 #[.agg #[.int .i32 P, .int .i32 I, .int .i32 D, .int .i32 low, .int .i32 high], .agg #[.int .i32 sum, .int .i32 last]] w fun e w' => e = .returned (.int .i64 1) ∧ Below w.heap.size w w' := by
  have h' : decide (high < low) = true ∨ (decide (high < low) = false ∧ decide (sum < low) = true) ∨ (decide (high < low) = false ∧ decide (sum < low) = false ∧ decide (high < sum) = true) := by
    simp only [decide_eq_false_iff_not, decide_eq_true_eq]; unfold pidBad at h; omega
  clear h
  rcases h' with h | ⟨h, h'⟩ | ⟨h, h', h''⟩
  all_goals
    go_enter Try.func50, Try.ntmps50
    go_wp2
    go_ret
    exact ⟨rfl, (((Below.refl _ _).alloc (Nat.le_refl _) _).alloc (by simp) _)⟩

/-- the sum ahead of the look at the bounds; the output ahead of its bounds; the sum that is kept -/
def pidSum (I low high sum err : Int) : Int := clampI (sat32 (sum + mulI I err)) low high
def pidOut (P I D low high sum last err : Int) : Int := sat32 (sat32 (mulI P err + pidSum I low high sum err) + mulI D (sat32 (err - last)))
def pidKeeps (P I D low high sum last err : Int) : Bool :=
  (decide (high < pidOut P I D low high sum last err) && decide (sum < pidSum I low high sum err)) || (decide (pidOut P I D low high sum last err < low) && decide (pidSum I low high sum err < sum))
def pidNext (P I D low high sum last err : Int) : Int := if pidKeeps P I D low high sum last err then sum else pidSum I low high sum err
def pidTold (P I D low high sum last err : Int) : Int := clampI (pidOut P I D low high sum last err) low high
theorem pidSum_bd (I low high sum err : Int) (h : ¬ pidBad low high sum) : low ≤ pidSum I low high sum err ∧ pidSum I low high sum err ≤ high := by
  unfold pidBad at h; unfold pidSum clampI; omega
theorem pidTold_bd (P I D low high sum last err : Int) (h : ¬ pidBad low high sum) : low ≤ pidTold P I D low high sum last err ∧ pidTold P I D low high sum last err ≤ high := by
  unfold pidBad at h; unfold pidTold clampI; omega
theorem pidNext_bd (P I D low high sum last err : Int) (h : ¬ pidBad low high sum) : low ≤ pidNext P I D low high sum last err ∧ pidNext P I D low high sum last err ≤ high := by
  have := pidSum_bd I low high sum err h
  unfold pidBad at h; unfold pidNext; split <;> omega
set_option maxHeartbeats 2000000 in
set_option maxRecDepth 100000 in
theorem pidStep_yes (P I D low high sum last err : Int) (w : World) (hP : -2147483648 ≤ P ∧ P ≤ 2147483647) (hI : -2147483648 ≤ I ∧ I ≤ 2147483647) (hD : -2147483648 ≤ D ∧ D ≤ 2147483647)
    (hl : -2147483648 ≤ low ∧ low ≤ 2147483647) (hh : -2147483648 ≤ high ∧ high ≤ 2147483647) (hs : -2147483648 ≤ sum ∧ sum ≤ 2147483647) (hla : -2147483648 ≤ last ∧ last ≤ 2147483647) (he : -2147483648 ≤ err ∧ err ≤ 2147483647)
    (h : ¬ pidBad low high sum) :
    Calls Try.prog 25 #[.agg #[.int .i32 P, .int .i32 I, .int .i32 D, .int .i32 low, .int .i32 high], .agg #[.int .i32 sum, .int .i32 last], .int .i32 err] w
      fun e w' => e = .returned (.tuple #[.agg #[.int .i32 (pidNext P I D low high sum last err), .int .i32 err], .int .i32 (pidTold P I D low high sum last err), .int .i64 0]) ∧ Below w.heap.size w w' := by
  have H := Lib.hid h
  have b1 := mulI_bd I err
  have b2 := sat32_bd (sum + mulI I err)
  have b3 := pidSum_bd I low high sum err h
  have b4 := mulI_bd P err
  have b5 := sat32_bd (mulI P err + pidSum I low high sum err)
  have b6 := sat32_bd (err - last)
  have b7 := mulI_bd D (sat32 (err - last))
  have e1 : clampI (sat32 (sum + mulI I err)) low high = pidSum I low high sum err := rfl
  have e2 : sat32 (sat32 (mulI P err + pidSum I low high sum err) + mulI D (sat32 (err - last))) = pidOut P I D low high sum last err := rfl
  have b8 : -2147483648 ≤ pidOut P I D low high sum last err ∧ pidOut P I D low high sum last err ≤ 2147483647 := sat32_bd _
  have e3 : clampI (pidOut P I D low high sum last err) low high = pidTold P I D low high sum last err := rfl
  have e4 : pidNext P I D low high sum last err = if pidKeeps P I D low high sum last err then sum else pidSum I low high sum err := rfl
  have e5 : pidKeeps P I D low high sum last err = ((decide (high < pidOut P I D low high sum last err) && decide (sum < pidSum I low high sum err)) || (decide (pidOut P I D low high sum last err < low) && decide (pidSum I low high sum err < sum))) := rfl
  have E4 := Lib.hid e4; have E5 := Lib.hid e5
  clear h e4 e5
  generalize pidNext P I D low high sum last err = nx at E4 ⊢
  generalize pidKeeps P I D low high sum last err = kp at E4 E5
  generalize pidTold P I D low high sum last err = tl at e3 ⊢
  generalize pidOut P I D low high sum last err = ou at e2 e3 b8 E5
  generalize pidSum I low high sum err = su at e1 e2 b3 b5 E4 E5
  go_enter Try.func25, Try.ntmps25
  go_wp2_with fail
  refine (pidCheck_yes _ _ _ _ _ _ _ _ H.out).mono ?_
  rintro e w1 ⟨rfl, hb⟩
  have hz := hb.size
  obtain ⟨hc, hf⟩ := Open.bcell hb
  simp at hz
  go_wp2_with fail
  go_quiet ((first | (go_at_call 48; exact quietL (mul_any _ _ (by omega) (by omega) _)) | (go_at_call 46; exact quietL (add_any _ _ (by omega) (by omega) _)) | (go_at_call 49; exact quietL (clamp_any _ _ _ _))))
  go_wp2_with fail
  go_quiet ((first | (go_at_call 48; exact quietL2 (mul_any _ _ (by omega) (by omega) _)) | (go_at_call 46; exact quietL2 (add_any _ _ (by omega) (by omega) _)) | (go_at_call 23; exact quietL2 (sub_any _ _ (by omega) (by omega) _))))
  have hk : (kp = true ∧ decide (high < ou) = true ∧ decide (sum < su) = true) ∨ (kp = true ∧ decide (high < ou) = true ∧ decide (sum < su) = false ∧ decide (ou < low) = true ∧ decide (su < sum) = true) ∨
      (kp = true ∧ decide (high < ou) = false ∧ decide (ou < low) = true ∧ decide (su < sum) = true) ∨ (kp = false ∧ decide (high < ou) = true ∧ decide (sum < su) = false ∧ decide (ou < low) = true ∧ decide (su < sum) = false) ∨
      (kp = false ∧ decide (high < ou) = true ∧ decide (sum < su) = false ∧ decide (ou < low) = false) ∨ (kp = false ∧ decide (high < ou) = false ∧ decide (ou < low) = true ∧ decide (su < sum) = false) ∨
      (kp = false ∧ decide (high < ou) = false ∧ decide (ou < low) = false) := by
    rw [E5.out]
    generalize decide (high < ou) = p
    generalize decide (sum < su) = q
    generalize decide (ou < low) = r
    generalize decide (su < sum) = t
    revert p q r t
    decide
  rcases hk with ⟨rfl, c1, c2⟩ | ⟨rfl, c1, c2, c3, c4⟩ | ⟨rfl, c1, c2, c3⟩ | ⟨rfl, c1, c2, c3, c4⟩ | ⟨rfl, c1, c2, c3⟩ | ⟨rfl, c1, c2, c3⟩ | ⟨rfl, c1, c2⟩
  all_goals
    have E6 := E4.out
    simp only [if_true, Bool.false_eq_true, if_false] at E6
    subst E6
    clear E4 E5
    go_wp2_with (go_at_call 49; refine (clamp_any _ _ _ _).mono ?_; rintro e w' ⟨rfl, rfl⟩)
    refine bodyPost_ret (v := .tuple #[.agg #[.int .i32 _, .int .i32 err], .int .i32 tl, .int .i64 0]) (by simp [results, Try.results25, go_sem, hc]) rfl ⟨rfl, ?_⟩
    repeat (first | exact Below.refl _ _ | refine Below.setCell ?_ (by simp; try omega) _ | refine below_drewN ?_ _ | refine Below.trans ?_ (Below.mono hb (by simp; try omega)) | refine Below.alloc ?_ (by simp; try omega) _)
theorem pidStep_no (P I D low high sum last err : Int) (w : World) (h : pidBad low high sum) :
    Calls Try.prog 25 #[.agg #[.int .i32 P, .int .i32 I, .int .i32 D, .int .i32 low, .int .i32 high], .agg #[.int .i32 sum, .int .i32 last], .int .i32 err] w
      fun e w' => e = .returned (.tuple #[.agg #[.int .i32 0, .int .i32 0], .int .i32 0, .int .i64 1]) ∧ Below w.heap.size w w' := by
  have H := Lib.hid h
  clear h
  go_enter Try.func25, Try.ntmps25
  go_wp2_with fail
  refine (pidCheck_no _ _ _ _ _ _ _ _ H.out).mono ?_
  rintro e w1 ⟨rfl, hb⟩
  have hz := hb.size
  obtain ⟨hc, hf⟩ := Open.bcell hb
  simp at hz
  go_wp2
  refine bodyPost_ret (v := .tuple #[.agg #[.int .i32 0, .int .i32 0], .int .i32 0, .int .i64 1]) (by simp [results, Try.results25, go_sem, hc]) rfl ⟨rfl, ?_⟩
  repeat (first | exact Below.refl _ _ | refine Below.setCell ?_ (by simp; try omega) _ | refine below_drewN ?_ _ | refine Below.trans ?_ (Below.mono hb (by simp; try omega)) | refine Below.alloc ?_ (by simp; try omega) _)

end Go.Proofs.Ytacelddnklnhpaa
