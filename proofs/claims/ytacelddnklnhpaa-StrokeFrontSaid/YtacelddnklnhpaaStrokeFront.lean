/- StrokeFront: whatever the trial and the points are, the law answers true and leaves memory as it was. -/
import Derived.Test.YtacelddnklnhpaaStrokeLaw
namespace Go.Proofs.Ytacelddnklnhpaa.strokeFront
open Go.ChangeShapes Go.WideShapes Go.ChangeAt Go.RowKit Go.Proofs.Ytacelddnklnhpaa Go.Proofs.Ytacelddnklnhpaa.Open
set_option linter.unusedVariables false
theorem two_ok : PointsOk [(0, 3, 0), (0, 4, 0)] := by
  refine ⟨by decide, by decide, fun i x hx => ?_⟩
  match i, hx with
  | 0, hx => cases hx; exact ⟨by decide, by decide, by decide⟩
  | 1, hx => cases hx; exact ⟨by decide, by decide, by decide⟩
theorem two_time : timeTo [(0, 3, 0), (0, 4, 0)] 2 = 7 := by decide
/-- either trial's end -/
def Told (T : Trl) (p0 q0 : Int) (xs : List PointR) (w : World) (e : Ending) (w' : World) : Prop :=
  ∃ n x v c : Int, e = .returned (.tuple #[.int .i64 n, .agg #[.int .i32 x, .int .i32 v], .int .i64 c]) ∧ Below w.heap.size w w' ∧ ((c != 0) = true ∨ (c = 0 ∧ TestOk T p0 xs ∧ n = (testS T xs 0 ⟨p0, q0, p0, 0, 0, 0⟩).1))
theorem test_any (T : Trl) (p0 q0 : Int) (xs : List PointR) (v : Value) (w : World) (hT : TrlOk T) (hv : RecsAt 3 pointLay w v xs) (hfit : ∀ y ∈ xs, pointFit y) (hm : xs.length ≤ 9223372036854775807) :
    Calls Try.prog 31 #[trialV T p0 q0, v] w (Told T p0 q0 xs w) := by
  by_cases h : TestOk T p0 xs
  · exact (strokeTest_yes T p0 q0 xs v w hT hv hfit h.1 h.2.1 h.2.2).mono fun e w' ⟨h1, h2⟩ => ⟨_, _, _, _, h1, h2, .inr ⟨rfl, h, rfl⟩⟩
  · exact (strokeTest_no T p0 q0 xs v w hv hm h).mono fun e w' ⟨c, hc, h1, h2⟩ => ⟨_, _, _, c, h1, h2, .inl (by rw [bne_iff_ne]; exact hc)⟩
theorem laid_one (xs : List PointR) : ∀ u ∈ xs.flatMap pointLay, u.oneCell' = true := by
  intro u hu
  obtain ⟨x, -, hx⟩ := List.mem_flatMap.1 hu
  simp only [pointLay, List.mem_cons, List.not_mem_nil, or_false] at hx
  rcases hx with rfl | rfl | rfl <;> rfl
set_option maxHeartbeats 8000000 in
set_option maxRecDepth 100000 in
theorem way (T : Trl) (p0 q0 : Int) (xs ys : List PointR) (u v : Value) (w : World) (hT : TrlOk T) (hx : RecsAt 3 pointLay w u xs) (hy : RecsAt 3 pointLay w v ys) (fx : ∀ y ∈ xs, pointFit y) (fy : ∀ y ∈ ys, pointFit y) (hn : (xs.length + ys.length) * 24 ≤ 281474976710656) :
    Calls Try.prog 13 #[trialV T p0 q0, u, v] w fun e w' => e = .returned (.bool true) ∧ Below w.heap.size w w' := by
  obtain ⟨a1, cap1, rfl⟩ := hx.len
  obtain ⟨a2, cap2, rfl⟩ := hy.len
  have HX := Lib.hid hx; have HY := Lib.hid hy; have FX := Lib.hid fx; have FY := Lib.hid fy; have HT := Lib.hid hT
  have HCT : CellsAt (w.alloc (.cells #[.int .i32 T.gain, .int .i64 T.drag, .int .i32 T.low, .int .i32 T.high, .int .i32 p0, .int .i32 q0, .int .i32 T.rate, .int .i64 T.soft, .int .i32 T.P, .int .i32 T.I, .int .i32 T.D, .int .i32 T.lo, .int .i32 T.hi, .int .i32 T.oil, .int .i32 T.load, .bool T.stuck] 92)) w.heap.size (trialLay T p0 q0) := CellsAt.new w _ _ _ rfl
  have F0 := recs_new (E := 97) (w.alloc (.cells #[.int .i32 T.gain, .int .i64 T.drag, .int .i32 T.low, .int .i32 T.high, .int .i32 p0, .int .i32 q0, .int .i32 T.rate, .int .i64 T.soft, .int .i32 T.P, .int .i32 T.I, .int .i32 T.D, .int .i32 T.lo, .int .i32 T.hi, .int .i32 T.oil, .int .i32 T.load, .bool T.stuck] 92)) [((0 : Int), (3 : Int), (0 : Int)), (0, 4, 0)] #[.int .i32 0, .int .i64 3, .int .i32 0, .int .i32 0, .int .i64 4, .int .i32 0] rfl pointLay_len rfl (by decide)
  simp only [World.size_alloc] at F0
  have HF0 := Lib.hid F0; have HCT' := Lib.hid HCT
  clear hx hy fx fy hT F0 HCT
  go_enter Try.func13, Try.ntmps13
  go_wp2_with fail
  refine (strokeTime_yes [(0, 3, 0), (0, 4, 0)] _ _ HF0.out two_ok).mono ?_
  rintro e w1 ⟨he, hb⟩
  rw [show ([((0 : Int), (3 : Int), (0 : Int)), (0, 4, 0)] : List PointR).length = 2 from rfl, two_time] at he
  subst he
  have B1 : Below w.heap.size w w1 := by repeat (first | with_reducible exact Below.refl _ _ | ((with_reducible refine Below.setCell ?_ ?_ _); rotate_left; (· first | (simp; done) | omega | (simp; omega))) | with_reducible refine below_drewN ?_ _ | with_reducible refine Below.drew ?_ | ((with_reducible refine Below.trans ?_ (Below.mono hb ?_)); rotate_left; (· first | (simp; done) | omega | (simp; omega))) | ((with_reducible refine Below.alloc ?_ ?_ _); rotate_left; (· first | (simp; done) | omega | (simp; omega))) | exact Below.refl _ _ | refine Below.setCell ?_ (by first | (simp; done) | omega | (simp; omega)) _ | refine below_drewN ?_ _ | refine Below.drew ?_ | refine Below.trans ?_ (Below.mono hb (by first | (simp; done) | omega | (simp; omega))) | refine Below.alloc ?_ (by first | (simp; done) | omega | (simp; omega)) _)
  have T1 := Lib.hid ((HCT'.out.alloc (.cells #[.int .i32 0, .int .i64 3, .int .i32 0, .int .i32 0, .int .i64 4, .int .i32 0] 97)).call hb)
  have z1 := B1.size
  clear hb HF0 HCT'
  go_wp2_with fail
  have C1 := src_recs (HX.out.later pointLay_len B1 (Nat.le_refl _)) (by omega) pointLay_len
  have C2 := src_recs (HY.out.later pointLay_len B1 (Nat.le_refl _)) (by omega) pointLay_len
  refine (concat_point w1.heap.size _ _ xs.length ys.length _ _ _ (C1.below ((Below.refl w1.heap.size w1).alloc (Nat.le_refl _) _) (Nat.le_refl _)) (C2.below ((Below.refl w1.heap.size w1).alloc (Nat.le_refl _) _) (Nat.le_refl _)) (laid_one xs) (laid_one ys) (by go_simp) (by go_simp) hn).mono ?_
  rintro e w2 ⟨v2, rfl, hown, hb⟩
  have N2 : Below w1.heap.size w1 w2 := by repeat (first | with_reducible exact Below.refl _ _ | ((with_reducible refine Below.setCell ?_ ?_ _); rotate_left; (· first | (simp; done) | omega | (simp; omega))) | with_reducible refine below_drewN ?_ _ | with_reducible refine Below.drew ?_ | ((with_reducible refine Below.trans ?_ (Below.mono hb ?_)); rotate_left; (· first | (simp; done) | omega | (simp; omega))) | ((with_reducible refine Below.alloc ?_ ?_ _); rotate_left; (· first | (simp; done) | omega | (simp; omega))) | exact Below.refl _ _ | refine Below.setCell ?_ (by first | (simp; done) | omega | (simp; omega)) _ | refine below_drewN ?_ _ | refine Below.drew ?_ | refine Below.trans ?_ (Below.mono hb (by first | (simp; done) | omega | (simp; omega))) | refine Below.alloc ?_ (by first | (simp; done) | omega | (simp; omega)) _)
  have B2 := B1.trans (N2.mono z1)
  have T2 := Lib.hid (T1.out.call N2)
  have z2 := B2.size
  rw [← List.flatMap_append] at hown
  have HC := own_recs (xs := xs ++ ys) (by rw [List.length_append]; exact hown) pointLay_len
  obtain ⟨a3, cap3, rfl⟩ := HC.len
  rw [List.length_append] at HC ⊢
  have HC2 := Lib.hid HC
  have c0 := T2.out.at_ 0 rfl
  have c1 := T2.out.at_ 1 rfl
  have c2 := T2.out.at_ 2 rfl
  have c3 := T2.out.at_ 3 rfl
  have c4 := T2.out.at_ 4 rfl
  have c5 := T2.out.at_ 5 rfl
  have c6 := T2.out.at_ 6 rfl
  have c7 := T2.out.at_ 7 rfl
  have c8 := T2.out.at_ 8 rfl
  have c9 := T2.out.at_ 9 rfl
  have c10 := T2.out.at_ 10 rfl
  have c11 := T2.out.at_ 11 rfl
  have c12 := T2.out.at_ 12 rfl
  have c13 := T2.out.at_ 13 rfl
  have c14 := T2.out.at_ 14 rfl
  have c15 := T2.out.at_ 15 rfl
  clear hown hb C1 C2 HC T1 B1 z1 N2
  go_wp2_with fail
  refine (test_any T p0 q0 (xs ++ ys) _ _ HT.out HC2.out (fun y hy => by rcases List.mem_append.1 hy with h | h; exact FX.out y h; exact FY.out y h) (by simp; omega)).mono ?_
  rintro e w3 ⟨n1, x1, v1, e1, rfl, hb3, ht1⟩
  have HT1 := Lib.hid ht1
  have T3 := Lib.hid (T2.out.call hb3)
  have B3 := B2.trans (hb3.mono z2)
  have HC3 := Lib.hid (HC2.out.later pointLay_len hb3 (Nat.le_refl _))
  have z3 := B3.size
  have T3b := Lib.hid (T3.out.alloc (.cells #[.int .i32 x1, .int .i32 v1] 59))
  have s3 : w.heap.size < w3.heap.size := T3.out.lt
  clear c0 c1 c2 c3 c4 c5 c6 c7 c8 c9 c10 c11 c12 c13 c14 c15 hb3 ht1 T2 HC2 B2 z2
  have c0 := T3.out.at_ 0 rfl
  have c1 := T3.out.at_ 1 rfl
  have c2 := T3.out.at_ 2 rfl
  have c3 := T3.out.at_ 3 rfl
  have c4 := T3.out.at_ 4 rfl
  have c5 := T3.out.at_ 5 rfl
  have c6 := T3.out.at_ 6 rfl
  have c7 := T3.out.at_ 7 rfl
  have c8 := T3.out.at_ 8 rfl
  have c9 := T3.out.at_ 9 rfl
  have c10 := T3.out.at_ 10 rfl
  have c11 := T3.out.at_ 11 rfl
  have c12 := T3.out.at_ 12 rfl
  have c13 := T3.out.at_ 13 rfl
  have c14 := T3.out.at_ 14 rfl
  have c15 := T3.out.at_ 15 rfl
  go_wp2_with fail
  refine (test_any T p0 q0 xs _ _ HT.out ((HX.out.later pointLay_len B3 (Nat.le_refl _)).later pointLay_len ((Below.refl w3.heap.size w3).alloc (Nat.le_refl _) _) (Nat.le_refl _)) FX.out (by omega)).mono ?_
  rintro e w4 ⟨n2, x2, v2, e2, rfl, hb4, ht2⟩
  have HT2 := Lib.hid ht2
  have N4 : Below w3.heap.size w3 w4 := by repeat (first | with_reducible exact Below.refl _ _ | ((with_reducible refine Below.setCell ?_ ?_ _); rotate_left; (· first | (simp; done) | omega | (simp; omega))) | with_reducible refine below_drewN ?_ _ | with_reducible refine Below.drew ?_ | ((with_reducible refine Below.trans ?_ (Below.mono hb4 ?_)); rotate_left; (· first | (simp; done) | omega | (simp; omega))) | ((with_reducible refine Below.alloc ?_ ?_ _); rotate_left; (· first | (simp; done) | omega | (simp; omega))) | exact Below.refl _ _ | refine Below.setCell ?_ (by first | (simp; done) | omega | (simp; omega)) _ | refine below_drewN ?_ _ | refine Below.drew ?_ | refine Below.trans ?_ (Below.mono hb4 (by first | (simp; done) | omega | (simp; omega))) | refine Below.alloc ?_ (by first | (simp; done) | omega | (simp; omega)) _)
  have B4 := B3.trans (N4.mono z3)
  have HC4 := Lib.hid (HC3.out.later pointLay_len N4 (Nat.le_refl _))
  have z4 := B4.size
  clear c0 c1 c2 c3 c4 c5 c6 c7 c8 c9 c10 c11 c12 c13 c14 c15 hb4 ht2 T3 T3b HC3 B3 z3 N4
  rcases HT1.out with f1 | ⟨rfl, ok1, rfl⟩
  · go_wp2
    go_ret
    exact ⟨rfl, by repeat (first | with_reducible exact Below.refl _ _ | with_reducible exact B4 | ((with_reducible refine Below.setCell ?_ ?_ _); rotate_left; (· first | (simp; done) | omega | (simp; omega))) | with_reducible refine below_drewN ?_ _ | with_reducible refine Below.drew ?_ | ((with_reducible refine Below.alloc ?_ ?_ _); rotate_left; (· first | (simp; done) | omega | (simp; omega))) | exact Below.refl _ _ | exact B4 | refine Below.setCell ?_ (by first | (simp; done) | omega | (simp; omega)) _ | refine below_drewN ?_ _ | refine Below.drew ?_ | refine Below.alloc ?_ (by first | (simp; done) | omega | (simp; omega)) _)⟩
  · have t0 : ((0 : Int) != 0) = false := rfl
    rcases HT2.out with f2 | ⟨rfl, ok2, rfl⟩
    · go_wp2
      go_ret
      exact ⟨rfl, by repeat (first | with_reducible exact Below.refl _ _ | with_reducible exact B4 | ((with_reducible refine Below.setCell ?_ ?_ _); rotate_left; (· first | (simp; done) | omega | (simp; omega))) | with_reducible refine below_drewN ?_ _ | with_reducible refine Below.drew ?_ | ((with_reducible refine Below.alloc ?_ ?_ _); rotate_left; (· first | (simp; done) | omega | (simp; omega))) | exact Below.refl _ _ | exact B4 | refine Below.setCell ?_ (by first | (simp; done) | omega | (simp; omega)) _ | refine below_drewN ?_ _ | refine Below.drew ?_ | refine Below.alloc ?_ (by first | (simp; done) | omega | (simp; omega)) _)⟩
    · have hfr := testS_append T xs ys 0 ⟨p0, q0, p0, 0, 0, 0⟩
      have hle := testS_le T (xs ++ ys) 0 ⟨p0, q0, p0, 0, 0, 0⟩
      have hle2 := testS_le T ys (0 + xs.length) (testS T xs 0 ⟨p0, q0, p0, 0, 0, 0⟩).2
      have hti := timeTo_mono (xs ++ ys) ok1.1.2.2 xs.length (xs ++ ys).length (by simp) (Nat.le_refl _)
      rw [timeTo_front xs ys _ (Nat.le_refl _), List.length_append] at hti
      rw [Nat.zero_add] at hfr hle2
      have OK1 := Lib.hid ok1.1; have OK2 := Lib.hid ok2.1
      have HTI := Lib.hid hti
      clear HT1 HT2 ok1 ok2
      rcases hfr with ⟨h1, h2⟩ | ⟨h1, h2⟩
      · obtain ⟨r1, hr1⟩ : ∃ r, (testS T xs 0 ⟨p0, q0, p0, 0, 0, 0⟩).1 = r := ⟨_, rfl⟩
        have h3 : (testS T (xs ++ ys) 0 ⟨p0, q0, p0, 0, 0, 0⟩).1 = r1 := by rw [h2]; exact hr1
        rw [hr1] at h1 ⊢
        rw [h3]
        clear h2 h3 hr1 hle hle2 hti
        go_wp2_with fail
        refine (strokeTime_yes (xs ++ ys) _ _ (HC4.out.later pointLay_len ((Below.refl w4.heap.size w4).alloc (Nat.le_refl _) _) (Nat.le_refl _)) OK1.out).mono ?_
        rintro e w5 ⟨he, hb5⟩
        rw [List.length_append] at he
        subst he
        have N5 : Below w4.heap.size w4 w5 := by repeat (first | with_reducible exact Below.refl _ _ | ((with_reducible refine Below.setCell ?_ ?_ _); rotate_left; (· first | (simp; done) | omega | (simp; omega))) | with_reducible refine below_drewN ?_ _ | with_reducible refine Below.drew ?_ | ((with_reducible refine Below.trans ?_ (Below.mono hb5 ?_)); rotate_left; (· first | (simp; done) | omega | (simp; omega))) | ((with_reducible refine Below.alloc ?_ ?_ _); rotate_left; (· first | (simp; done) | omega | (simp; omega))) | exact Below.refl _ _ | refine Below.setCell ?_ (by first | (simp; done) | omega | (simp; omega)) _ | refine below_drewN ?_ _ | refine Below.drew ?_ | refine Below.trans ?_ (Below.mono hb5 (by first | (simp; done) | omega | (simp; omega))) | refine Below.alloc ?_ (by first | (simp; done) | omega | (simp; omega)) _)
        have B5 := B4.trans (N5.mono z4)
        clear hb5 N5
        go_wp2_with fail
        refine (strokeTime_yes xs _ _ (HX.out.later pointLay_len B5 (Nat.le_refl _)) OK2.out).mono ?_
        rintro e w6 ⟨rfl, hb6⟩
        have B6 := B5.trans (hb6.mono B5.size)
        clear hb6
        have d1 : decide (timeTo xs xs.length ≤ timeTo (xs ++ ys) (xs.length + ys.length)) = true := by simpa using HTI.out
        have d2 : decide ((r1 : Int) < (xs.length : Int)) = true := by simp; omega
        have d3 : decide (r1 < xs.length) = true := by simp; omega
        have d4 : ((r1 : Int) == (r1 : Int)) = true := by simp
        generalize timeTo xs xs.length = t1 at *
        generalize timeTo (xs ++ ys) (xs.length + ys.length) = t2 at *
        go_wp2
        go_ret
        exact ⟨rfl, B6⟩
      · obtain ⟨r2, hr2⟩ : ∃ r, (testS T (xs ++ ys) 0 ⟨p0, q0, p0, 0, 0, 0⟩).1 = r := ⟨_, rfl⟩
        have h3 : xs.length ≤ r2 := by rw [← hr2, h2]; exact hle2.1
        rw [h1, hr2]
        clear h1 h2 hr2 hle hle2 hti
        go_wp2_with fail
        refine (strokeTime_yes (xs ++ ys) _ _ (HC4.out.later pointLay_len ((Below.refl w4.heap.size w4).alloc (Nat.le_refl _) _) (Nat.le_refl _)) OK1.out).mono ?_
        rintro e w5 ⟨he, hb5⟩
        rw [List.length_append] at he
        subst he
        have N5 : Below w4.heap.size w4 w5 := by repeat (first | with_reducible exact Below.refl _ _ | ((with_reducible refine Below.setCell ?_ ?_ _); rotate_left; (· first | (simp; done) | omega | (simp; omega))) | with_reducible refine below_drewN ?_ _ | with_reducible refine Below.drew ?_ | ((with_reducible refine Below.trans ?_ (Below.mono hb5 ?_)); rotate_left; (· first | (simp; done) | omega | (simp; omega))) | ((with_reducible refine Below.alloc ?_ ?_ _); rotate_left; (· first | (simp; done) | omega | (simp; omega))) | exact Below.refl _ _ | refine Below.setCell ?_ (by first | (simp; done) | omega | (simp; omega)) _ | refine below_drewN ?_ _ | refine Below.drew ?_ | refine Below.trans ?_ (Below.mono hb5 (by first | (simp; done) | omega | (simp; omega))) | refine Below.alloc ?_ (by first | (simp; done) | omega | (simp; omega)) _)
        have B5 := B4.trans (N5.mono z4)
        clear hb5 N5
        go_wp2_with fail
        refine (strokeTime_yes xs _ _ (HX.out.later pointLay_len B5 (Nat.le_refl _)) OK2.out).mono ?_
        rintro e w6 ⟨rfl, hb6⟩
        have B6 := B5.trans (hb6.mono B5.size)
        clear hb6
        have d1 : decide (timeTo xs xs.length ≤ timeTo (xs ++ ys) (xs.length + ys.length)) = true := by simpa using HTI.out
        have d2 : decide ((xs.length : Int) < (xs.length : Int)) = false := by simp
        have d3 : decide (xs.length < xs.length) = false := by simp
        have d4 : ((xs.length : Int) == (xs.length : Int)) = true := by simp
        have d5 : decide ((xs.length : Int) ≤ (r2 : Int)) = true := by simp; omega
        have d6 : decide (xs.length ≤ r2) = true := by simp; omega
        generalize timeTo xs xs.length = t1 at *
        generalize timeTo (xs ++ ys) (xs.length + ys.length) = t2 at *
        go_wp2
        go_ret
        exact ⟨rfl, B6⟩
theorem law (gain drag low high pos vel rate soft P I D lo hi oil load : Int) (stuck : Bool) (a : Option Addr) (len cap : Nat) (xs : List PointR) (b : Option Addr) (len2 cap2 : Nat) (ys : List PointR) (w : World)
    (hgain : -2147483648 ≤ gain ∧ gain ≤ 2147483647) (hdrag : -9223372036854775808 ≤ drag ∧ drag ≤ 9223372036854775807) (hlow : -2147483648 ≤ low ∧ low ≤ 2147483647) (hhigh : -2147483648 ≤ high ∧ high ≤ 2147483647) (hpos : -2147483648 ≤ pos ∧ pos ≤ 2147483647) (hvel : -2147483648 ≤ vel ∧ vel ≤ 2147483647) (hrate : -2147483648 ≤ rate ∧ rate ≤ 2147483647) (hsoft : -9223372036854775808 ≤ soft ∧ soft ≤ 9223372036854775807) (hP : -2147483648 ≤ P ∧ P ≤ 2147483647) (hI : -2147483648 ≤ I ∧ I ≤ 2147483647) (hD : -2147483648 ≤ D ∧ D ≤ 2147483647) (hlo : -2147483648 ≤ lo ∧ lo ≤ 2147483647) (hhi : -2147483648 ≤ hi ∧ hi ≤ 2147483647) (hoil : -2147483648 ≤ oil ∧ oil ≤ 2147483647) (hload : -2147483648 ≤ load ∧ load ≤ 2147483647)
    (h1 : IsRecs 3 pointLay pointFit w a len cap xs) (r1 : len ≤ cap ∧ cap * 24 ≤ 140737488351232) (h2 : IsRecs 3 pointLay pointFit w b len2 cap2 ys) (r2 : len2 ≤ cap2 ∧ cap2 * 24 ≤ 140737488351232) :
    Calls Try.prog 13 #[.agg #[.int .i32 gain, .int .i64 drag, .int .i32 low, .int .i32 high, .int .i32 pos, .int .i32 vel, .int .i32 rate, .int .i64 soft, .int .i32 P, .int .i32 I, .int .i32 D, .int .i32 lo, .int .i32 hi, .int .i32 oil, .int .i32 load, .bool stuck], .slice a len cap, .slice b len2 cap2] w fun e w' => e = .returned (.bool true) ∧ Below w.heap.size w w' := by
  obtain ⟨g1, g2, g3⟩ := isRecs_recs h1 (by omega) pointLay_len
  obtain ⟨g4, g5, g6⟩ := isRecs_recs h2 (by omega) pointLay_len
  exact way ⟨gain, drag, low, high, rate, soft, P, I, D, lo, hi, oil, load, stuck⟩ pos vel _ _ _ _ w ⟨hgain, hlow, hhigh, hrate, hP, hI, hD, hlo, hhi, hoil, hload⟩ g1 g4 g3 g6 (by rw [g2, g5]; omega)
set_option maxRecDepth 100000 in
theorem lifted (os : Os) (started : os.Started) (H : Type) (enc : TypeId × Value → H) :
    ReturnsInHanded {} Try.checked os 13 .any (Rows.strokeFrontSpec.pre6 enc Try.prog Try.f13 Rows.strokeFrontRow.domain false) (Rows.strokeFrontSpec.post enc Try.prog Try.f13 false true false false) := by
  refine returnsInHanded_of_change_sized (C := Try.checked) own started (by kernel_rfl) Try.func13
    (ChangeSpec.witness6 (enc := enc) (C := Try.checked) false ⟨#[], #[.agg #[.int .i32 0, .int .i64 0, .int .i32 0, .int .i32 0, .int .i32 0, .int .i32 0, .int .i32 0, .int .i64 0, .int .i32 0, .int .i32 0, .int .i32 0, .int .i32 0, .int .i32 0, .int .i32 0, .int .i32 0, .bool false], .slice none 0 0, .slice none 0 0], []⟩ 8 (by kernel_rfl) (by kernel_rfl) (by kernel_rfl) (by kernel_rfl)) ?_
  intro W base args ds gs before hval0 hW hcnd hsz0 _
  have hsz : (DataW.weightsEach Try.prog (Try.f13.params.toList ++ Rows.strokeFrontSpec.plain.varTypes Try.prog) (ds ++ gs)).all (· ≤ reachBytes) = true := hsz0
  have hval : ∀ (j : Nat) t v, Try.f13.params[j]? = some t → args[j]? = some v → Value.okWide Try.prog W .any base t v := hval0
  have hW' := hW
  obtain ⟨p, q, hA0, hV, rfl, hfz, hnd⟩ := hW
  have hA : DataW.TrodAll enc Try.prog W 0 (fun _ => true) true Try.f13.params.toList args.toList ds p := hA0
  rw [Try.params13] at hA hval hsz
  obtain ⟨v0, vs0, d0, ds0, p0, q0, hargs, rfl, rfl, h0, r0⟩ := trodAll_cons hA
  obtain ⟨v1, vs1, d1, ds1, p1, q1, rfl, rfl, rfl, h1, r1⟩ := trodAll_cons r0
  obtain ⟨v2, vs2, d2, ds2, p2, q2, rfl, rfl, rfl, h2, r2⟩ := trodAll_cons r1
  obtain ⟨rfl, rfl, rfl⟩ := trodAll_nil r2
  obtain rfl : args = #[v0, v1, v2] := by cases args; simp_all
  obtain ⟨rfl, rfl⟩ := trodVars_none hV
  have k0 := h0
  have lt0 : ∀ x ∈ p0, x.block < W.heap.size := by obtain ⟨m, hm⟩ := k0; exact DataW.trod_lt m _ _ _ hm
  have k1 := h1
  have lt1 : ∀ x ∈ p1, x.block < W.heap.size := by obtain ⟨m, hm⟩ := k1; exact DataW.trod_lt m _ _ _ hm
  have k2 := h2
  have lt2 : ∀ x ∈ p2, x.block < W.heap.size := by obtain ⟨m, hm⟩ := k2; exact DataW.trod_lt m _ _ _ hm
  obtain ⟨cs0, rfl, lf0_0⟩ := open_flat 12 [21, 3, 21, 21, 21, 21, 21, 3, 21, 21, 21, 21, 21, 21, 21, 4] (by kernel_rfl) (by kernel_rfl) (by kernel_rfl) (hval 0 92 v0 rfl rfl) h0
  obtain ⟨c0_0, r0_0, rfl, y0_0, lf0_1⟩ := leafs_cons lf0_0
  obtain ⟨a0_0, rfl, w0_0⟩ := leaf_int Try.underlying21 y0_0
  obtain ⟨c0_1, r0_1, rfl, y0_1, lf0_2⟩ := leafs_cons lf0_1
  obtain ⟨a0_1, rfl, w0_1⟩ := leaf_int Try.underlying3 y0_1
  obtain ⟨c0_2, r0_2, rfl, y0_2, lf0_3⟩ := leafs_cons lf0_2
  obtain ⟨a0_2, rfl, w0_2⟩ := leaf_int Try.underlying21 y0_2
  obtain ⟨c0_3, r0_3, rfl, y0_3, lf0_4⟩ := leafs_cons lf0_3
  obtain ⟨a0_3, rfl, w0_3⟩ := leaf_int Try.underlying21 y0_3
  obtain ⟨c0_4, r0_4, rfl, y0_4, lf0_5⟩ := leafs_cons lf0_4
  obtain ⟨a0_4, rfl, w0_4⟩ := leaf_int Try.underlying21 y0_4
  obtain ⟨c0_5, r0_5, rfl, y0_5, lf0_6⟩ := leafs_cons lf0_5
  obtain ⟨a0_5, rfl, w0_5⟩ := leaf_int Try.underlying21 y0_5
  obtain ⟨c0_6, r0_6, rfl, y0_6, lf0_7⟩ := leafs_cons lf0_6
  obtain ⟨a0_6, rfl, w0_6⟩ := leaf_int Try.underlying21 y0_6
  obtain ⟨c0_7, r0_7, rfl, y0_7, lf0_8⟩ := leafs_cons lf0_7
  obtain ⟨a0_7, rfl, w0_7⟩ := leaf_int Try.underlying3 y0_7
  obtain ⟨c0_8, r0_8, rfl, y0_8, lf0_9⟩ := leafs_cons lf0_8
  obtain ⟨a0_8, rfl, w0_8⟩ := leaf_int Try.underlying21 y0_8
  obtain ⟨c0_9, r0_9, rfl, y0_9, lf0_10⟩ := leafs_cons lf0_9
  obtain ⟨a0_9, rfl, w0_9⟩ := leaf_int Try.underlying21 y0_9
  obtain ⟨c0_10, r0_10, rfl, y0_10, lf0_11⟩ := leafs_cons lf0_10
  obtain ⟨a0_10, rfl, w0_10⟩ := leaf_int Try.underlying21 y0_10
  obtain ⟨c0_11, r0_11, rfl, y0_11, lf0_12⟩ := leafs_cons lf0_11
  obtain ⟨a0_11, rfl, w0_11⟩ := leaf_int Try.underlying21 y0_11
  obtain ⟨c0_12, r0_12, rfl, y0_12, lf0_13⟩ := leafs_cons lf0_12
  obtain ⟨a0_12, rfl, w0_12⟩ := leaf_int Try.underlying21 y0_12
  obtain ⟨c0_13, r0_13, rfl, y0_13, lf0_14⟩ := leafs_cons lf0_13
  obtain ⟨a0_13, rfl, w0_13⟩ := leaf_int Try.underlying21 y0_13
  obtain ⟨c0_14, r0_14, rfl, y0_14, lf0_15⟩ := leafs_cons lf0_14
  obtain ⟨a0_14, rfl, w0_14⟩ := leaf_int Try.underlying21 y0_14
  obtain ⟨c0_15, r0_15, rfl, y0_15, lf0_16⟩ := leafs_cons lf0_15
  obtain ⟨a0_15, rfl⟩ := leaf_bool Try.underlying4 y0_15
  obtain rfl := leafs_nil lf0_16
  obtain ⟨sa1, sl1, sc1, rfl⟩ := okWide_slice Try.underlying93 (hval 1 93 v1 rfl rfl)
  obtain ⟨a1, len1, cap1, z1, e1, w1⟩ := leaf_recs (ts := [21, 3, 21]) 3 pointLay pointFit 12 (Try.underlying93) (by kernel_rfl) (by kernel_rfl) rfl point_dec (by obtain ⟨fuel, hf⟩ := h1; exact ⟨fuel, _, by simpa [Value.cells] using hf⟩)
  simp only [Value.slice.injEq] at e1
  obtain ⟨rfl, rfl, rfl⟩ := e1
  have R1 := cap_le (B := 24) Try.underlying93 k1 (fun elems spare hd => by have := sized_slice hsz (j := 1) (t := 93) (e := 97) (elems := elems) (spare := spare) rfl (by rw [← hd]; rfl) Try.underlying93; exact this)
  obtain ⟨sa2, sl2, sc2, rfl⟩ := okWide_slice Try.underlying93 (hval 2 93 v2 rfl rfl)
  obtain ⟨a2, len2, cap2, z2, e2, w2⟩ := leaf_recs (ts := [21, 3, 21]) 3 pointLay pointFit 12 (Try.underlying93) (by kernel_rfl) (by kernel_rfl) rfl point_dec (by obtain ⟨fuel, hf⟩ := h2; exact ⟨fuel, _, by simpa [Value.cells] using hf⟩)
  simp only [Value.slice.injEq] at e2
  obtain ⟨rfl, rfl, rfl⟩ := e2
  have R2 := cap_le (B := 24) Try.underlying93 k2 (fun elems spare hd => by have := sized_slice hsz (j := 2) (t := 93) (e := 97) (elems := elems) (spare := spare) rfl (by rw [← hd]; rfl) Try.underlying93; exact this)
  clear hA0 hval0
  refine (law a0_0 a0_1 a0_2 a0_3 a0_4 a0_5 a0_6 a0_7 a0_8 a0_9 a0_10 a0_11 a0_12 a0_13 a0_14 a0_15 sa1 sl1 sc1 z1 sa2 sl2 sc2 z2 W (bounds_i32 w0_0) (bounds_i64 w0_1) (bounds_i32 w0_2) (bounds_i32 w0_3) (bounds_i32 w0_4) (bounds_i32 w0_5) (bounds_i32 w0_6) (bounds_i64 w0_7) (bounds_i32 w0_8) (bounds_i32 w0_9) (bounds_i32 w0_10) (bounds_i32 w0_11) (bounds_i32 w0_12) (bounds_i32 w0_13) (bounds_i32 w0_14) w1 R1 w2 R2).mono fun e W' ⟨he, bel⟩ => ?_
  subst he
  exact ⟨_, rfl, _, _, _, [], _, [], hW', trodAll_mk1 (shut_bool Try.underlying4 _), (trodAll_cons_mk (Below.trod laidOut (by kernel_rfl) (of_decide_eq_true (by kernel_rfl)) k0 bel lt0) (trodAll_cons_mk (Below.trod laidOut (by kernel_rfl) (of_decide_eq_true (by kernel_rfl)) k1 bel lt1) (trodAll_cons_mk (Below.trod laidOut (by kernel_rfl) (of_decide_eq_true (by kernel_rfl)) k2 bel lt2) trodAll_mk0))), rfl, bel.frame _, fun h => by cases h⟩
theorem over : Rows.strokeFrontRow.holds Try.pinned (OpenSpec.ofChange Rows.strokeFrontSpec) :=
  OpenClaim.holds_of_wide 13 Try.f13 rfl rfl rfl rfl rfl rfl rfl ⟨rfl, rfl, rfl, rfl, rfl⟩ rfl rfl rfl rfl rfl (by kernel_rfl) Try.func13 (by kernel_rfl)
    (of_decide_eq_true (by kernel_rfl)) (by unfold Func.isWrapper; first | (rw [if_pos (by decide +kernel)]; kernel_rfl) | (rw [if_neg (by decide +kernel)]; exact ⟨rfl, rfl⟩))
    (fun os started H enc _ => lifted os started H enc)
theorem proved : Rows.StrokeFrontSaid := over
#print axioms proved

end Go.Proofs.Ytacelddnklnhpaa.strokeFront
