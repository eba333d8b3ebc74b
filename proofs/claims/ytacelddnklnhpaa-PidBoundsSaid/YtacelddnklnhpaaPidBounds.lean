/- PidBounds: whatever the gain, the state and the errors are, the law answers true and leaves memory as it was. -/
import Derived.Test.YtacelddnklnhpaaPidRun
namespace Go.Proofs.Ytacelddnklnhpaa.pidBounds
open Go.ChangeShapes Go.WideShapes Go.ChangeAt Go.RowKit Go.Proofs.Ytacelddnklnhpaa Go.Proofs.Ytacelddnklnhpaa.Open
set_option linter.unusedVariables false
theorem step_is (P I D low high sum last err nx tl : Int) (w : World) (hP : -2147483648 ≤ P ∧ P ≤ 2147483647) (hI : -2147483648 ≤ I ∧ I ≤ 2147483647) (hD : -2147483648 ≤ D ∧ D ≤ 2147483647) (hlow : -2147483648 ≤ low ∧ low ≤ 2147483647) (hhigh : -2147483648 ≤ high ∧ high ≤ 2147483647) (hsum : -2147483648 ≤ sum ∧ sum ≤ 2147483647) (hlast : -2147483648 ≤ last ∧ last ≤ 2147483647) (herr : -2147483648 ≤ err ∧ err ≤ 2147483647) (h : ¬ pidBad low high sum)
    (h1 : pidNext P I D low high sum last err = nx) (h2 : pidTold P I D low high sum last err = tl) :
    Calls Try.prog 25 #[.agg #[.int .i32 P, .int .i32 I, .int .i32 D, .int .i32 low, .int .i32 high], .agg #[.int .i32 sum, .int .i32 last], .int .i32 err] w
      fun e w' => e = .returned (.tuple #[.agg #[.int .i32 nx, .int .i32 err], .int .i32 tl, .int .i64 0]) ∧ Below w.heap.size w w' := by
  subst h1 h2
  exact pidStep_yes P I D low high sum last err w hP hI hD hlow hhigh hsum hlast herr h
theorem mulI_zero (a : Int) : mulI a 0 = 0 := by unfold mulI nearI; rw [Int.mul_zero]; decide
theorem rest_zero (P I D low high : Int) (h : low ≤ 0 ∧ 0 ≤ high) : pidNext P I D low high 0 0 0 = 0 ∧ pidTold P I D low high 0 0 0 = 0 := by
  have h1 : pidSum I low high 0 0 = 0 := by unfold pidSum; rw [mulI_zero]; unfold clampI sat32; omega
  have h2 : pidOut P I D low high 0 0 0 = 0 := by unfold pidOut; rw [h1, mulI_zero]; show sat32 (sat32 (0 + 0) + mulI D (sat32 (0 - 0))) = 0; rw [show sat32 (0 - 0) = 0 from by decide, mulI_zero]; decide
  refine ⟨?_, ?_⟩
  · unfold pidNext; rw [h1]; split <;> rfl
  · unfold pidTold; rw [h2]; unfold clampI; omega
set_option maxHeartbeats 4000000 in
set_option maxRecDepth 100000 in
theorem yes (P I D low high sum last : Int) (a : Option Addr) (len cap : Nat) (zs : List Int) (w : World) (hP : -2147483648 ≤ P ∧ P ≤ 2147483647) (hI : -2147483648 ≤ I ∧ I ≤ 2147483647) (hD : -2147483648 ≤ D ∧ D ≤ 2147483647) (hlow : -2147483648 ≤ low ∧ low ≤ 2147483647) (hhigh : -2147483648 ≤ high ∧ high ≤ 2147483647) (hsum : -2147483648 ≤ sum ∧ sum ≤ 2147483647) (hlast : -2147483648 ≤ last ∧ last ≤ 2147483647) (hrow : IsRow .i32 w a len cap zs) (hr : len ≤ cap ∧ cap * 4 ≤ 140737488351232) (h : ¬ pidBad low high sum) :
    Calls Try.prog 8 #[.agg #[.int .i32 P, .int .i32 I, .int .i32 D, .int .i32 low, .int .i32 high], .agg #[.int .i32 sum, .int .i32 last], .slice a len cap] w fun e w' => e = .returned (.bool true) ∧ Below w.heap.size w w' := by
  have H := Lib.hid h; have HR := Lib.hid hrow
  have K0 : Hid (¬ pidBad (-5) 5 0) := (by unfold pidBad; omega : ¬ pidBad (-5) 5 0)
  have K1 : Hid (pidNext 65536 0 0 (-5) 5 0 0 9 = 0) := (by decide +kernel : pidNext 65536 0 0 (-5) 5 0 0 9 = 0)
  have K2 : Hid (pidTold 65536 0 0 (-5) 5 0 0 9 = 5) := (by decide +kernel : pidTold 65536 0 0 (-5) 5 0 0 9 = 5)
  clear h hrow
  go_enter Try.func8, Try.ntmps8
  go_wp2_with fail
  refine (step_is _ _ _ _ _ _ _ _ 0 5 _ (by omega) (by omega) (by omega) (by omega) (by omega) (by omega) (by omega) (by omega) K0.out K1.out K2.out).mono ?_
  rintro e1 w1 ⟨rfl, hb⟩
  have zb := hb.size
  try (simp at zb)
  have g0 : w1.cell? ⟨w.heap.size, 0, none⟩ = some (.int .i32 P) := cell_later hb (by go_simp)
  have g1 : w1.cell? ⟨w.heap.size, 1, none⟩ = some (.int .i32 I) := cell_later hb (by go_simp)
  have g2 : w1.cell? ⟨w.heap.size, 2, none⟩ = some (.int .i32 D) := cell_later hb (by go_simp)
  have g3 : w1.cell? ⟨w.heap.size, 3, none⟩ = some (.int .i32 low) := cell_later hb (by go_simp)
  have g4 : w1.cell? ⟨w.heap.size, 4, none⟩ = some (.int .i32 high) := cell_later hb (by go_simp)
  have s0 : w1.cell? ⟨w.heap.size + 1, 0, none⟩ = some (.int .i32 sum) := cell_later hb (by go_simp)
  have s1 : w1.cell? ⟨w.heap.size + 1, 1, none⟩ = some (.int .i32 last) := cell_later hb (by go_simp)
  have B1 : Below w.heap.size w w1 := by repeat (first | exact Below.refl _ _ | refine Below.setCell ?_ (by first | (simp; done) | omega | (simp; omega)) _ | refine below_drewN ?_ _ | refine Below.drew ?_ | refine Below.trans ?_ (Below.mono hb (by first | (simp; done) | omega | (simp; omega))) | refine Below.alloc ?_ (by first | (simp; done) | omega | (simp; omega)) _)
  clear hb
  have sw1_0_0 : w.heap.size < w1.heap.size := by omega
  have sw1_1_0 : w.heap.size + 1 < w1.heap.size := by omega
  go_wp2_with fail
  refine (pidRun_yes P I D low high sum last a len cap zs _ hP hI hD hlow hhigh hsum hlast (HR.out.later (B1.alloc (by omega) _)) hr H.out).mono ?_
  rintro e2 w2 ⟨sm, lt, v, ys, rfl, hs1, hs2, hlen, hin, hown, hb⟩
  have zb2 := hb.size
  try (simp at zb2)
  have BA : Below w1.heap.size w1 w2 := by repeat (first | exact Below.refl _ _ | refine Below.setCell ?_ (by first | (simp; done) | omega | (simp; omega)) _ | refine below_drewN ?_ _ | refine Below.drew ?_ | refine Below.trans ?_ (Below.mono hb (by first | (simp; done) | omega | (simp; omega))) | refine Below.alloc ?_ (by first | (simp; done) | omega | (simp; omega)) _)
  have B2 : Below w.heap.size w w2 := by repeat (first | exact Below.refl _ _ | exact B1 | refine Below.setCell ?_ (by first | (simp; done) | omega | (simp; omega)) _ | refine below_drewN ?_ _ | refine Below.drew ?_ | refine Below.trans ?_ (Below.mono BA (by first | (simp; done) | omega | (simp; omega))) | refine Below.alloc ?_ (by first | (simp; done) | omega | (simp; omega)) _)
  replace g0 := cell_later BA g0
  replace g1 := cell_later BA g1
  replace g2 := cell_later BA g2
  replace g3 := cell_later BA g3
  replace g4 := cell_later BA g4
  have sw2_0_0 : w.heap.size < w2.heap.size := by omega
  have sw2_1_0 : w.heap.size + 1 < w2.heap.size := by omega
  clear hb BA B1 s0 s1
  obtain ⟨ao, cp, rfl, hcells⟩ : ∃ ao cp, v = .slice ao len cp ∧ ∀ j, j < len → ∃ g, ao = some ⟨g, 0, none⟩ ∧ w2.cell? ⟨g, j, none⟩ = some (.int .i32 (ys.getD j 0)) := by
    have hown' := hown
    obtain ⟨hl, ⟨rfl, h0⟩ | ⟨g, cp, cur, rfl, hg0, hheap, hn, hcm, hcur, htake⟩⟩ := hown
    · exact ⟨none, 0, by rw [h0], fun j hj => by omega⟩
    · refine ⟨some ⟨g, 0, none⟩, cp, rfl, fun j hj => ⟨g, rfl, ?_⟩⟩
      rw [hown'.cellAt j (by omega)]
      simp [hlen, hj]
  have HCELLS := Lib.hid hcells; have HLEN := Lib.hid hlen; have HIN := Lib.hid hin
  have hlm : len ≤ 140737488351232 := by omega
  clear hown hcells hlen hin
  go_wp2
  go_loop [52] (fun i => ∃ k : Nat, k ≤ len ∧ i = .int .i64 k) (fun i => len - (intOf i).toNat)
  case atStart => exact ⟨0, Nat.zero_le _, rfl⟩
  case round =>
    obtain ⟨k, hk, rfl⟩ := hrel
    by_cases hlt : k < len
    · obtain ⟨g, rfl, hc⟩ := HCELLS.out k hlt
      have hgl := World.block_lt_of_cell? _ _ hc
      have hy := HIN.out (ys.getD k 0) (by
        have : k < ys.length := by rw [HLEN.out]; exact hlt
        rw [List.getD_eq_getElem?_getD, List.getElem?_eq_getElem this]; exact List.getElem_mem this)
      generalize ys.getD k 0 = y at *
      go_wp2
      go_round
      case rel => exact ⟨k + 1, by omega, by go_num⟩
      case measure => simp [intOf]; omega
    · obtain rfl : k = len := by omega
      rcases (by omega : 0 < low ∨ (low ≤ 0 ∧ high < 0) ∨ (low ≤ 0 ∧ 0 ≤ high)) with q | ⟨q, q'⟩ | ⟨q, q'⟩
      · go_wp2
        all_goals
          go_ret
          refine ⟨ret_bool (by first | rfl | (simp; done)), ?_⟩
          repeat (first | exact Below.refl _ _ | exact B2 | refine Below.setCell ?_ (by first | (simp; done) | omega | (simp; omega)) _ | refine below_drewN ?_ _ | refine Below.drew ?_ | refine Below.alloc ?_ (by first | (simp; done) | omega | (simp; omega)) _)
      · go_wp2
        all_goals
          go_ret
          refine ⟨ret_bool (by first | rfl | (simp; done)), ?_⟩
          repeat (first | exact Below.refl _ _ | exact B2 | refine Below.setCell ?_ (by first | (simp; done) | omega | (simp; omega)) _ | refine below_drewN ?_ _ | refine Below.drew ?_ | refine Below.alloc ?_ (by first | (simp; done) | omega | (simp; omega)) _)
      · have R := rest_zero P I D low high ⟨q, q'⟩
        have R1 := Lib.hid R.1; have R2 := Lib.hid R.2
        have HZ : Hid (¬ pidBad low high 0) := (by unfold pidBad; omega : ¬ pidBad low high 0)
        clear R
        have d1 : decide (0 < low) = false := decide_eq_false (by omega)
        have d2 : decide (high < 0) = false := decide_eq_false (by omega)
        go_wp2_with fail
        refine (step_is _ _ _ _ _ _ _ _ 0 0 _ hP hI hD hlow hhigh (by omega) (by omega) (by omega) HZ.out R1.out R2.out).mono ?_
        rintro e3 w3 ⟨rfl, hb⟩
        have zb3 := hb.size
        try (simp at zb3)
        have BA : Below w2.heap.size w2 w3 := by repeat (first | exact Below.refl _ _ | refine Below.setCell ?_ (by first | (simp; done) | omega | (simp; omega)) _ | refine below_drewN ?_ _ | refine Below.drew ?_ | refine Below.trans ?_ (Below.mono hb (by first | (simp; done) | omega | (simp; omega))) | refine Below.alloc ?_ (by first | (simp; done) | omega | (simp; omega)) _)
        have B3 : Below w.heap.size w w3 := by repeat (first | exact Below.refl _ _ | exact B2 | refine Below.setCell ?_ (by first | (simp; done) | omega | (simp; omega)) _ | refine below_drewN ?_ _ | refine Below.drew ?_ | refine Below.trans ?_ (Below.mono BA (by first | (simp; done) | omega | (simp; omega))) | refine Below.alloc ?_ (by first | (simp; done) | omega | (simp; omega)) _)
        have c0 : w3.cell? ⟨w2.heap.size, 0, none⟩ = some (.int .i32 sm) := cell_later hb (by go_simp)
        replace g3 := cell_later BA g3
        replace g4 := cell_later BA g4
        have sw3_0_0 : w.heap.size < w3.heap.size := by omega
        have sw3_1_0 : w.heap.size + 1 < w3.heap.size := by omega
        have sx : w2.heap.size < w3.heap.size := by omega
        clear hb BA B2 g0 g1 g2
        go_wp2
        all_goals
          go_ret
          refine ⟨ret_bool (by first | rfl | (simp; done)), ?_⟩
          repeat (first | exact Below.refl _ _ | exact B3 | refine Below.setCell ?_ (by first | (simp; done) | omega | (simp; omega)) _ | refine below_drewN ?_ _ | refine Below.drew ?_ | refine Below.alloc ?_ (by first | (simp; done) | omega | (simp; omega)) _)
set_option maxHeartbeats 4000000 in
set_option maxRecDepth 100000 in
theorem no (P I D low high sum last : Int) (a : Option Addr) (len cap : Nat) (w : World) (hP : -2147483648 ≤ P ∧ P ≤ 2147483647) (hI : -2147483648 ≤ I ∧ I ≤ 2147483647) (hD : -2147483648 ≤ D ∧ D ≤ 2147483647) (hlow : -2147483648 ≤ low ∧ low ≤ 2147483647) (hhigh : -2147483648 ≤ high ∧ high ≤ 2147483647) (hsum : -2147483648 ≤ sum ∧ sum ≤ 2147483647) (hlast : -2147483648 ≤ last ∧ last ≤ 2147483647) (h : pidBad low high sum) :
    Calls Try.prog 8 #[.agg #[.int .i32 P, .int .i32 I, .int .i32 D, .int .i32 low, .int .i32 high], .agg #[.int .i32 sum, .int .i32 last], .slice a len cap] w fun e w' => e = .returned (.bool true) ∧ Below w.heap.size w w' := by
  have H := Lib.hid h
  have K0 : Hid (¬ pidBad (-5) 5 0) := (by unfold pidBad; omega : ¬ pidBad (-5) 5 0)
  have K1 : Hid (pidNext 65536 0 0 (-5) 5 0 0 9 = 0) := (by decide +kernel : pidNext 65536 0 0 (-5) 5 0 0 9 = 0)
  have K2 : Hid (pidTold 65536 0 0 (-5) 5 0 0 9 = 5) := (by decide +kernel : pidTold 65536 0 0 (-5) 5 0 0 9 = 5)
  clear h
  go_enter Try.func8, Try.ntmps8
  go_wp2_with fail
  refine (step_is _ _ _ _ _ _ _ _ 0 5 _ (by omega) (by omega) (by omega) (by omega) (by omega) (by omega) (by omega) (by omega) K0.out K1.out K2.out).mono ?_
  rintro e1 w1 ⟨rfl, hb⟩
  have zb := hb.size
  try (simp at zb)
  have g0 : w1.cell? ⟨w.heap.size, 0, none⟩ = some (.int .i32 P) := cell_later hb (by go_simp)
  have g1 : w1.cell? ⟨w.heap.size, 1, none⟩ = some (.int .i32 I) := cell_later hb (by go_simp)
  have g2 : w1.cell? ⟨w.heap.size, 2, none⟩ = some (.int .i32 D) := cell_later hb (by go_simp)
  have g3 : w1.cell? ⟨w.heap.size, 3, none⟩ = some (.int .i32 low) := cell_later hb (by go_simp)
  have g4 : w1.cell? ⟨w.heap.size, 4, none⟩ = some (.int .i32 high) := cell_later hb (by go_simp)
  have s0 : w1.cell? ⟨w.heap.size + 1, 0, none⟩ = some (.int .i32 sum) := cell_later hb (by go_simp)
  have s1 : w1.cell? ⟨w.heap.size + 1, 1, none⟩ = some (.int .i32 last) := cell_later hb (by go_simp)
  have B1 : Below w.heap.size w w1 := by repeat (first | exact Below.refl _ _ | refine Below.setCell ?_ (by first | (simp; done) | omega | (simp; omega)) _ | refine below_drewN ?_ _ | refine Below.drew ?_ | refine Below.trans ?_ (Below.mono hb (by first | (simp; done) | omega | (simp; omega))) | refine Below.alloc ?_ (by first | (simp; done) | omega | (simp; omega)) _)
  clear hb
  have sw1_0_0 : w.heap.size < w1.heap.size := by omega
  have sw1_1_0 : w.heap.size + 1 < w1.heap.size := by omega
  go_wp2_with fail
  refine (pidRun_no P I D low high sum last a len cap _ H.out).mono ?_
  rintro e2 w2 ⟨rfl, hb⟩
  have zb2 := hb.size
  try (simp at zb2)
  have BA : Below w1.heap.size w1 w2 := by repeat (first | exact Below.refl _ _ | refine Below.setCell ?_ (by first | (simp; done) | omega | (simp; omega)) _ | refine below_drewN ?_ _ | refine Below.drew ?_ | refine Below.trans ?_ (Below.mono hb (by first | (simp; done) | omega | (simp; omega))) | refine Below.alloc ?_ (by first | (simp; done) | omega | (simp; omega)) _)
  have B2 : Below w.heap.size w w2 := by repeat (first | exact Below.refl _ _ | exact B1 | refine Below.setCell ?_ (by first | (simp; done) | omega | (simp; omega)) _ | refine below_drewN ?_ _ | refine Below.drew ?_ | refine Below.trans ?_ (Below.mono BA (by first | (simp; done) | omega | (simp; omega))) | refine Below.alloc ?_ (by first | (simp; done) | omega | (simp; omega)) _)
  clear hb BA B1 s0 s1 g0 g1 g2 g3 g4
  go_wp2
  go_ret
  refine ⟨ret_bool (by first | rfl | (simp; done)), ?_⟩
  repeat (first | exact Below.refl _ _ | exact B2 | refine Below.setCell ?_ (by first | (simp; done) | omega | (simp; omega)) _ | refine below_drewN ?_ _ | refine Below.drew ?_ | refine Below.alloc ?_ (by first | (simp; done) | omega | (simp; omega)) _)
theorem law (P I D low high sum last : Int) (a : Option Addr) (len cap : Nat) (zs : List Int) (w : World) (hP : -2147483648 ≤ P ∧ P ≤ 2147483647) (hI : -2147483648 ≤ I ∧ I ≤ 2147483647) (hD : -2147483648 ≤ D ∧ D ≤ 2147483647) (hlow : -2147483648 ≤ low ∧ low ≤ 2147483647) (hhigh : -2147483648 ≤ high ∧ high ≤ 2147483647) (hsum : -2147483648 ≤ sum ∧ sum ≤ 2147483647) (hlast : -2147483648 ≤ last ∧ last ≤ 2147483647) (hrow : IsRow .i32 w a len cap zs) (hr : len ≤ cap ∧ cap * 4 ≤ 140737488351232) :
    Calls Try.prog 8 #[.agg #[.int .i32 P, .int .i32 I, .int .i32 D, .int .i32 low, .int .i32 high], .agg #[.int .i32 sum, .int .i32 last], .slice a len cap] w fun e w' => e = .returned (.bool true) ∧ Below w.heap.size w w' := by
  by_cases h : pidBad low high sum
  · exact no P I D low high sum last a len cap w hP hI hD hlow hhigh hsum hlast h
  · exact yes P I D low high sum last a len cap zs w hP hI hD hlow hhigh hsum hlast hrow hr h
set_option maxRecDepth 100000 in
theorem lifted (os : Os) (started : os.Started) (H : Type) (enc : TypeId × Value → H) :
    ReturnsInHanded {} Try.checked os 8 .any (Rows.pidBoundsSpec.pre6 enc Try.prog Try.f8 Rows.pidBoundsRow.domain false) (Rows.pidBoundsSpec.post enc Try.prog Try.f8 false true false false) := by
  refine returnsInHanded_of_change_sized (C := Try.checked) own started (by kernel_rfl) Try.func8
    (ChangeSpec.witness6 (enc := enc) (C := Try.checked) false ⟨#[], #[.agg #[.int .i32 0, .int .i32 0, .int .i32 0, .int .i32 0, .int .i32 0], .agg #[.int .i32 0, .int .i32 0], .slice none 0 0], []⟩ 8 (by kernel_rfl) (by kernel_rfl) (by kernel_rfl) (by kernel_rfl)) ?_
  intro W base args ds gs before hval0 hW hcnd hsz0 _
  have hsz : (DataW.weightsEach Try.prog (Try.f8.params.toList ++ Rows.pidBoundsSpec.plain.varTypes Try.prog) (ds ++ gs)).all (· ≤ reachBytes) = true := hsz0
  have hval : ∀ (j : Nat) t v, Try.f8.params[j]? = some t → args[j]? = some v → Value.okWide Try.prog W .any base t v := hval0
  have hW' := hW
  obtain ⟨p, q, hA0, hV, rfl, hfz, hnd⟩ := hW
  have hA : DataW.TrodAll enc Try.prog W 0 (fun _ => true) true Try.f8.params.toList args.toList ds p := hA0
  rw [Try.params8] at hA hval hsz
  obtain ⟨v0, vs0, d0, ds0, p0, q0, hargs, rfl, rfl, h0, r0⟩ := trodAll_cons hA
  obtain ⟨v1, vs1, d1, ds1, p1, q1, rfl, rfl, rfl, h1, r1⟩ := trodAll_cons r0
  obtain ⟨v2, vs2, d2, ds2, p2, q2, rfl, rfl, rfl, h2, r2⟩ := trodAll_cons r1
  obtain ⟨rfl, rfl, rfl⟩ := trodAll_nil r2
  obtain rfl : args = #[v0, v1, v2] := by cases args; simp_all
  obtain ⟨rfl, rfl⟩ := trodVars_none hV
  have k0 := h0
  have lt0 : ∀ x ∈ p0, x.block < W.heap.size := by obtain ⟨m, hm⟩ := k0; exact DataW.trod_lt m _ _ _ hm
  have k1 := h1
  have lt1 : ∀ x ∈ p1, x.block < W.heap.size := by obtain ⟨m, hm⟩ := k1; exact DataW.trod_lt m _ _ _ hm
  have k2 := h2
  have lt2 : ∀ x ∈ p2, x.block < W.heap.size := by obtain ⟨m, hm⟩ := k2; exact DataW.trod_lt m _ _ _ hm
  obtain ⟨cs0, rfl, lf0_0⟩ := open_flat 12 [21, 21, 21, 21, 21] (by kernel_rfl) (by kernel_rfl) (by kernel_rfl) (hval 0 66 v0 rfl rfl) h0
  obtain ⟨c0_0, r0_0, rfl, y0_0, lf0_1⟩ := leafs_cons lf0_0
  obtain ⟨a0_0, rfl, w0_0⟩ := leaf_int Try.underlying21 y0_0
  obtain ⟨c0_1, r0_1, rfl, y0_1, lf0_2⟩ := leafs_cons lf0_1
  obtain ⟨a0_1, rfl, w0_1⟩ := leaf_int Try.underlying21 y0_1
  obtain ⟨c0_2, r0_2, rfl, y0_2, lf0_3⟩ := leafs_cons lf0_2
  obtain ⟨a0_2, rfl, w0_2⟩ := leaf_int Try.underlying21 y0_2
  obtain ⟨c0_3, r0_3, rfl, y0_3, lf0_4⟩ := leafs_cons lf0_3
  obtain ⟨a0_3, rfl, w0_3⟩ := leaf_int Try.underlying21 y0_3
  obtain ⟨c0_4, r0_4, rfl, y0_4, lf0_5⟩ := leafs_cons lf0_4
  obtain ⟨a0_4, rfl, w0_4⟩ := leaf_int Try.underlying21 y0_4
  obtain rfl := leafs_nil lf0_5
  obtain ⟨cs1, rfl, lf1_0⟩ := open_flat 12 [21, 21] (by kernel_rfl) (by kernel_rfl) (by kernel_rfl) (hval 1 68 v1 rfl rfl) h1
  obtain ⟨c1_0, r1_0, rfl, y1_0, lf1_1⟩ := leafs_cons lf1_0
  obtain ⟨a1_0, rfl, w1_0⟩ := leaf_int Try.underlying21 y1_0
  obtain ⟨c1_1, r1_1, rfl, y1_1, lf1_2⟩ := leafs_cons lf1_1
  obtain ⟨a1_1, rfl, w1_1⟩ := leaf_int Try.underlying21 y1_1
  obtain rfl := leafs_nil lf1_2
  obtain ⟨sa2, sl2, sc2, rfl⟩ := okWide_slice Try.underlying69 (hval 2 69 v2 rfl rfl)
  obtain ⟨a2, len2, cap2, z2, e2, w2⟩ := leaf_ints (Try.underlying69) (Try.underlying21) (by kernel_rfl) (by obtain ⟨fuel, hf⟩ := h2; exact ⟨fuel, _, by simpa [Value.cells] using hf⟩)
  simp only [Value.slice.injEq] at e2
  obtain ⟨rfl, rfl, rfl⟩ := e2
  have R2 := cap_le (B := 4) Try.underlying69 k2 (fun elems spare hd => by have := sized_slice hsz (j := 2) (t := 69) (e := 21) (elems := elems) (spare := spare) rfl (by rw [← hd]; rfl) Try.underlying69; exact this)
  clear hA0 hval0
  refine (law a0_0 a0_1 a0_2 a0_3 a0_4 a1_0 a1_1 sa2 sl2 sc2 z2 W (bounds_i32 w0_0) (bounds_i32 w0_1) (bounds_i32 w0_2) (bounds_i32 w0_3) (bounds_i32 w0_4) (bounds_i32 w1_0) (bounds_i32 w1_1) w2 R2).mono fun e W' ⟨he, bel⟩ => ?_
  subst he
  exact ⟨_, rfl, _, _, _, [], _, [], hW', trodAll_mk1 (shut_bool Try.underlying4 _), (trodAll_cons_mk (Below.trod laidOut (by kernel_rfl) (of_decide_eq_true (by kernel_rfl)) k0 bel lt0) (trodAll_cons_mk (Below.trod laidOut (by kernel_rfl) (of_decide_eq_true (by kernel_rfl)) k1 bel lt1) (trodAll_cons_mk (Below.trod laidOut (by kernel_rfl) (of_decide_eq_true (by kernel_rfl)) k2 bel lt2) trodAll_mk0))), rfl, bel.frame _, fun h => by cases h⟩
theorem over : Rows.pidBoundsRow.holds Try.pinned (OpenSpec.ofChange Rows.pidBoundsSpec) :=
  OpenClaim.holds_of_wide 8 Try.f8 rfl rfl rfl rfl rfl rfl rfl ⟨rfl, rfl, rfl, rfl, rfl⟩ rfl rfl rfl rfl rfl (by kernel_rfl) Try.func8 (by kernel_rfl)
    (of_decide_eq_true (by kernel_rfl)) (by unfold Func.isWrapper; first | (rw [if_pos (by decide +kernel)]; kernel_rfl) | (rw [if_neg (by decide +kernel)]; exact ⟨rfl, rfl⟩))
    (fun os started H enc _ => lifted os started H enc)
theorem proved : Rows.PidBoundsSaid := over
#print axioms proved

end Go.Proofs.Ytacelddnklnhpaa.pidBounds
