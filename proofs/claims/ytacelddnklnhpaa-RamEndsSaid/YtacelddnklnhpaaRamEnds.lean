/- RamEnds: whatever the body, the ram, the pushes, the modes and the load are, the law answers true and leaves memory as it was. -/
import Derived.Test.YtacelddnklnhpaaRamStep
namespace Go.Proofs.Ytacelddnklnhpaa.ramEnds
open Go.ChangeShapes Go.WideShapes Go.ChangeAt Go.RowKit Go.Proofs.Ytacelddnklnhpaa Go.Proofs.Ytacelddnklnhpaa.Open
set_option linter.unusedVariables false
/-- one step more of drag halves the way -/
theorem way_half (gain drag load : Int) (ms ps : Nat → Int) (h : 0 ≤ drag ∧ drag ≤ 8) : wayI gain (drag + 1) load ms ps = wayI gain drag load ms ps / 2 := by
  have hD := dragK_bd ms drag 4
  have h1 : ∀ k, dragK ms (drag + 1) k = dragK ms drag k + 1 := by
    intro k
    induction k with
    | zero => rfl
    | succ k ih => simp only [dragK, ih]; omega
  unfold wayI
  rw [h1 4]
  have hb := mulI_bd gain (forceK ms ps load 4)
  generalize dragK ms drag 4 = d at *
  generalize mulI gain (forceK ms ps load 4) = x at *
  obtain ⟨n, rfl⟩ := Int.eq_ofNat_of_zero_le (show 0 ≤ d by omega)
  clear h1
  unfold shiftI
  have e1 : (min (-(-((n : Int) + 1))) 31).toNat = n + 1 := by omega
  rw [if_pos (by omega), e1]
  by_cases h0 : n = 0
  · subst h0
    simp only [Int.natCast_zero, Int.neg_zero, Int.lt_irrefl, if_false]
    have e2 : (min (0 : Int) 31).toNat = 0 := by omega
    rw [e2, Int.pow_zero, Int.mul_one, sat32_in x hb]
    rfl
  · have e3 : (min (-(-(n : Int))) 31).toNat = n := by omega
    rw [if_pos (by omega), e3, Int.pow_succ, Int.ediv_ediv_of_nonneg (by have := Int.pow_pos (n := 2) (m := n) (by omega); omega)]
theorem half_near (p w low high : Int) (h : low ≤ p ∧ p ≤ high) (hl : -2147483648 ≤ low) (hh : high ≤ 2147483647) :
    apartI (clampI (sat32 (p + w / 2)) low high) p ≤ apartI (clampI (sat32 (p + w)) low high) p + 1 := by
  unfold apartI absI clampI sat32; omega
set_option maxHeartbeats 4000000 in
set_option maxRecDepth 100000 in
theorem yes (gain drag low high pos vel p0 p1 p2 p3 m0 m1 m2 m3 load c x v y u : Int) (w : World) (hgain : -2147483648 ≤ gain ∧ gain ≤ 2147483647) (hlow : -2147483648 ≤ low ∧ low ≤ 2147483647) (hhigh : -2147483648 ≤ high ∧ high ≤ 2147483647) (hpos : -2147483648 ≤ pos ∧ pos ≤ 2147483647) (hvel : -2147483648 ≤ vel ∧ vel ≤ 2147483647) (hp0 : -2147483648 ≤ p0 ∧ p0 ≤ 2147483647) (hp1 : -2147483648 ≤ p1 ∧ p1 ≤ 2147483647) (hp2 : -2147483648 ≤ p2 ∧ p2 ≤ 2147483647) (hp3 : -2147483648 ≤ p3 ∧ p3 ≤ 2147483647) (hload : -2147483648 ≤ load ∧ load ≤ 2147483647)
    (hok : ¬ ramBad gain drag low high pos) (hok2 : ¬ ramBad gain c low high pos) (hm : ModesOk m0 m1 m2 m3) (hc : (drag = 8 ∧ c = 8) ∨ (drag = 7 ∧ c = 8) ∨ (0 ≤ drag ∧ drag < 7 ∧ c = drag + 1))
    (hx : ramPos gain drag low high pos load (sel m0 m1 m2 m3) (sel p0 p1 p2 p3) = x) (hv : sat32 (x - pos) = v)
    (hy : ramPos gain c low high pos load (sel m0 m1 m2 m3) (sel p0 p1 p2 p3) = y) (hu : sat32 (y - pos) = u) (hxb : -2147483648 ≤ x ∧ x ≤ 2147483647) (hyb : -2147483648 ≤ y ∧ y ≤ 2147483647)
    (t1 : decide (low ≤ x) = true) (t2 : decide (x ≤ high) = true) (t4 : decide (apartI y pos ≤ apartI x pos + 1) = true) :
    Calls Try.prog 7 #[.agg #[.int .i32 gain, .int .i64 drag, .int .i32 low, .int .i32 high], .agg #[.int .i32 pos, .int .i32 vel], .agg #[.int .i32 p0, .int .i32 p1, .int .i32 p2, .int .i32 p3], .agg #[.int .i64 m0, .int .i64 m1, .int .i64 m2, .int .i64 m3], .int .i32 load] w
      fun e w' => e = .returned (.bool true) ∧ Below w.heap.size w w' := by
  have H := Lib.hid hok; have H2 := Lib.hid hok2; have HM := Lib.hid hm; have HX := Lib.hid hx; have HY := Lib.hid hy; have HV := Lib.hid hv; have HU := Lib.hid hu
  have t3 : (v == sat32 (x - pos)) = true := by rw [hv]; simp
  have K0 : Hid (¬ ramBad 65536 0 (-9) 9 0) := (by unfold ramBad; omega : ¬ ramBad 65536 0 (-9) 9 0)
  have K1 : Hid (ModesOk 1 0 0 0) := (by unfold ModesOk; omega : ModesOk 1 0 0 0)
  have K2 : Hid (ramPos 65536 0 (-9) 9 0 1 (sel 1 0 0 0) (sel 4 0 0 0) = 3) := (by decide +kernel : ramPos 65536 0 (-9) 9 0 1 (sel 1 0 0 0) (sel 4 0 0 0) = 3)
  have K3 : Hid (sat32 (3 - 0) = 3) := (by decide +kernel : sat32 (3 - 0) = 3)
  have a1 := apartI_bd y pos hyb hpos; have a2 := apartI_bd x pos hxb hpos; have HC := Lib.hid hc
  clear hok hok2 hm hx hy hv hu hc
  go_enter Try.func7, Try.ntmps7
  go_wp2_with fail
  refine (ramStep_yes _ _ _ _ _ _ _ _ _ _ _ _ _ _ _ 3 3 _ (by omega) (by omega) (by omega) (by omega) (by omega) (by omega) (by omega) (by omega) (by omega) K0.out K1.out K2.out K3.out).mono ?_
  rintro e_w1 w1 ⟨rfl, hb⟩
  have zhb := hb.size
  obtain ⟨chb, fhb⟩ := Open.bcell hb
  try (simp at zhb)
  have ca0 : w1.cell? ⟨w.heap.size, 0, none⟩ = some (.int .i32 gain) := by rw [chb _ _ (by first | (simp; done) | omega | (simp; omega))]; go_simp
  have ca1 : w1.cell? ⟨w.heap.size, 1, none⟩ = some (.int .i64 drag) := by rw [chb _ _ (by first | (simp; done) | omega | (simp; omega))]; go_simp
  have ca2 : w1.cell? ⟨w.heap.size, 2, none⟩ = some (.int .i32 low) := by rw [chb _ _ (by first | (simp; done) | omega | (simp; omega))]; go_simp
  have ca3 : w1.cell? ⟨w.heap.size, 3, none⟩ = some (.int .i32 high) := by rw [chb _ _ (by first | (simp; done) | omega | (simp; omega))]; go_simp
  have cb0 : w1.cell? ⟨w.heap.size + 1, 0, none⟩ = some (.int .i32 pos) := by rw [chb _ _ (by first | (simp; done) | omega | (simp; omega))]; go_simp
  have cb1 : w1.cell? ⟨w.heap.size + 1, 1, none⟩ = some (.int .i32 vel) := by rw [chb _ _ (by first | (simp; done) | omega | (simp; omega))]; go_simp
  have cp0 : w1.cell? ⟨w.heap.size + 1 + 1, 0, none⟩ = some (.int .i32 p0) := by rw [chb _ _ (by first | (simp; done) | omega | (simp; omega))]; go_simp
  have cp1 : w1.cell? ⟨w.heap.size + 1 + 1, 1, none⟩ = some (.int .i32 p1) := by rw [chb _ _ (by first | (simp; done) | omega | (simp; omega))]; go_simp
  have cp2 : w1.cell? ⟨w.heap.size + 1 + 1, 2, none⟩ = some (.int .i32 p2) := by rw [chb _ _ (by first | (simp; done) | omega | (simp; omega))]; go_simp
  have cp3 : w1.cell? ⟨w.heap.size + 1 + 1, 3, none⟩ = some (.int .i32 p3) := by rw [chb _ _ (by first | (simp; done) | omega | (simp; omega))]; go_simp
  have cm0 : w1.cell? ⟨w.heap.size + 1 + 1 + 1, 0, none⟩ = some (.int .i64 m0) := by rw [chb _ _ (by first | (simp; done) | omega | (simp; omega))]; go_simp
  have cm1 : w1.cell? ⟨w.heap.size + 1 + 1 + 1, 1, none⟩ = some (.int .i64 m1) := by rw [chb _ _ (by first | (simp; done) | omega | (simp; omega))]; go_simp
  have cm2 : w1.cell? ⟨w.heap.size + 1 + 1 + 1, 2, none⟩ = some (.int .i64 m2) := by rw [chb _ _ (by first | (simp; done) | omega | (simp; omega))]; go_simp
  have cm3 : w1.cell? ⟨w.heap.size + 1 + 1 + 1, 3, none⟩ = some (.int .i64 m3) := by rw [chb _ _ (by first | (simp; done) | omega | (simp; omega))]; go_simp
  have B1 : Below w.heap.size w w1 := by repeat (first | exact Below.refl _ _ | refine Below.setCell ?_ (by first | (simp; done) | omega | (simp; omega)) _ | refine below_drewN ?_ _ | refine Below.trans ?_ (Below.mono hb (by first | (simp; done) | omega | (simp; omega))) | refine Below.alloc ?_ (by first | (simp; done) | omega | (simp; omega)) _)
  clear hb chb fhb
  have sw1_0 : w.heap.size < w1.heap.size := by omega
  have sw1_1 : w.heap.size + 1 < w1.heap.size := by omega
  have sw1_2 : w.heap.size + 1 + 1 < w1.heap.size := by omega
  have sw1_3 : w.heap.size + 1 + 1 + 1 < w1.heap.size := by omega
  go_wp2_with fail
  refine (ramStep_yes _ _ _ _ _ _ _ _ _ _ _ _ _ _ _ x v _ hgain hlow hhigh hpos hp0 hp1 hp2 hp3 hload H.out HM.out HX.out HV.out).mono ?_
  rintro e2 w2 ⟨rfl, hb⟩
  have zb := hb.size
  try (simp at zb)
  have BA : Below w1.heap.size w1 w2 := by repeat (first | exact Below.refl _ _ | refine Below.setCell ?_ (by first | (simp; done) | omega | (simp; omega)) _ | refine below_drewN ?_ _ | refine Below.trans ?_ (Below.mono hb (by first | (simp; done) | omega | (simp; omega))) | refine Below.alloc ?_ (by first | (simp; done) | omega | (simp; omega)) _)
  have B2 : Below w.heap.size w w2 := by repeat (first | exact Below.refl _ _ | exact B1 | refine Below.setCell ?_ (by first | (simp; done) | omega | (simp; omega)) _ | refine below_drewN ?_ _ | refine Below.trans ?_ (Below.mono BA (by first | (simp; done) | omega | (simp; omega))) | refine Below.alloc ?_ (by first | (simp; done) | omega | (simp; omega)) _)
  replace ca0 := cell_later BA ca0
  replace ca1 := cell_later BA ca1
  replace ca2 := cell_later BA ca2
  replace ca3 := cell_later BA ca3
  replace cb0 := cell_later BA cb0
  replace cb1 := cell_later BA cb1
  replace cp0 := cell_later BA cp0
  replace cp1 := cell_later BA cp1
  replace cp2 := cell_later BA cp2
  replace cp3 := cell_later BA cp3
  replace cm0 := cell_later BA cm0
  replace cm1 := cell_later BA cm1
  replace cm2 := cell_later BA cm2
  replace cm3 := cell_later BA cm3
  clear hb BA B1
  have sw2_0 : w.heap.size < w2.heap.size := by omega
  have sw2_1 : w.heap.size + 1 < w2.heap.size := by omega
  have sw2_2 : w.heap.size + 1 + 1 < w2.heap.size := by omega
  have sw2_3 : w.heap.size + 1 + 1 + 1 < w2.heap.size := by omega
  rcases HC.out with ⟨rfl, rfl⟩ | ⟨rfl, rfl⟩ | ⟨hd, hd', rfl⟩
  all_goals
    go_wp2_with fail
    refine (ramStep_yes _ _ _ _ _ _ _ _ _ _ _ _ _ _ _ y u _ hgain hlow hhigh hpos hp0 hp1 hp2 hp3 hload H2.out HM.out HY.out HU.out).mono ?_
    rintro e3 w3 ⟨rfl, hb⟩
    have zc := hb.size
    try (simp at zc)
    have BA : Below w2.heap.size w2 w3 := by repeat (first | exact Below.refl _ _ | refine Below.setCell ?_ (by first | (simp; done) | omega | (simp; omega)) _ | refine below_drewN ?_ _ | refine Below.trans ?_ (Below.mono hb (by first | (simp; done) | omega | (simp; omega))) | refine Below.alloc ?_ (by first | (simp; done) | omega | (simp; omega)) _)
    have B3 : Below w.heap.size w w3 := by repeat (first | exact Below.refl _ _ | exact B2 | refine Below.setCell ?_ (by first | (simp; done) | omega | (simp; omega)) _ | refine below_drewN ?_ _ | refine Below.trans ?_ (Below.mono BA (by first | (simp; done) | omega | (simp; omega))) | refine Below.alloc ?_ (by first | (simp; done) | omega | (simp; omega)) _)
    have x0 : w3.cell? ⟨w2.heap.size, 0, none⟩ = some (.int .i32 x) := cell_later hb (by go_simp)
    have x1 : w3.cell? ⟨w2.heap.size, 1, none⟩ = some (.int .i32 v) := cell_later hb (by go_simp)
    replace ca2 := cell_later BA ca2
    replace ca3 := cell_later BA ca3
    replace cb0 := cell_later BA cb0
    clear hb BA B2 ca0 ca1 cb1 cp0 cp1 cp2 cp3 cm0 cm1 cm2 cm3
    have sw3_0 : w.heap.size < w3.heap.size := by omega
    have sw3_1 : w.heap.size + 1 < w3.heap.size := by omega
    have sw3_2 : w.heap.size + 1 + 1 < w3.heap.size := by omega
    have sw3_3 : w.heap.size + 1 + 1 + 1 < w3.heap.size := by omega
    have sx : w2.heap.size < w3.heap.size := by omega
    go_wp2_with fail
    go_quiet ((first | (go_at_call 23; exact quietL (sub_any _ _ (by omega) (by omega) _)) | (go_at_call 24; exact quietL (apart_any _ _ (by omega) (by omega) _))))
    go_wp2
    go_ret
    refine ⟨ret_bool (by first | rfl | (simp; done)), ?_⟩
    repeat (first | exact Below.refl _ _ | exact B3 | refine Below.setCell ?_ (by first | (simp; done) | omega | (simp; omega)) _ | refine below_drewN ?_ _ | refine Below.alloc ?_ (by first | (simp; done) | omega | (simp; omega)) _)
set_option maxHeartbeats 4000000 in
set_option maxRecDepth 100000 in
theorem no (gain drag low high pos vel p0 p1 p2 p3 m0 m1 m2 m3 load : Int) (w : World) (hgain : -2147483648 ≤ gain ∧ gain ≤ 2147483647) (hlow : -2147483648 ≤ low ∧ low ≤ 2147483647) (hhigh : -2147483648 ≤ high ∧ high ≤ 2147483647) (hpos : -2147483648 ≤ pos ∧ pos ≤ 2147483647) (hvel : -2147483648 ≤ vel ∧ vel ≤ 2147483647) (hp0 : -2147483648 ≤ p0 ∧ p0 ≤ 2147483647) (hp1 : -2147483648 ≤ p1 ∧ p1 ≤ 2147483647) (hp2 : -2147483648 ≤ p2 ∧ p2 ≤ 2147483647) (hp3 : -2147483648 ≤ p3 ∧ p3 ≤ 2147483647) (hload : -2147483648 ≤ load ∧ load ≤ 2147483647)
    (h : ramBad gain drag low high pos ∨ (¬ ramBad gain drag low high pos ∧ ¬ ModesOk m0 m1 m2 m3)) :
    Calls Try.prog 7 #[.agg #[.int .i32 gain, .int .i64 drag, .int .i32 low, .int .i32 high], .agg #[.int .i32 pos, .int .i32 vel], .agg #[.int .i32 p0, .int .i32 p1, .int .i32 p2, .int .i32 p3], .agg #[.int .i64 m0, .int .i64 m1, .int .i64 m2, .int .i64 m3], .int .i32 load] w
      fun e w' => e = .returned (.bool true) ∧ Below w.heap.size w w' := by
  have H := Lib.hid h
  have K0 : Hid (¬ ramBad 65536 0 (-9) 9 0) := (by unfold ramBad; omega : ¬ ramBad 65536 0 (-9) 9 0)
  have K1 : Hid (ModesOk 1 0 0 0) := (by unfold ModesOk; omega : ModesOk 1 0 0 0)
  have K2 : Hid (ramPos 65536 0 (-9) 9 0 1 (sel 1 0 0 0) (sel 4 0 0 0) = 3) := (by decide +kernel : ramPos 65536 0 (-9) 9 0 1 (sel 1 0 0 0) (sel 4 0 0 0) = 3)
  have K3 : Hid (sat32 (3 - 0) = 3) := (by decide +kernel : sat32 (3 - 0) = 3)
  clear h
  go_enter Try.func7, Try.ntmps7
  go_wp2_with fail
  refine (ramStep_yes _ _ _ _ _ _ _ _ _ _ _ _ _ _ _ 3 3 _ (by omega) (by omega) (by omega) (by omega) (by omega) (by omega) (by omega) (by omega) (by omega) K0.out K1.out K2.out K3.out).mono ?_
  rintro e_w1 w1 ⟨rfl, hb⟩
  have zhb := hb.size
  obtain ⟨chb, fhb⟩ := Open.bcell hb
  try (simp at zhb)
  have ca0 : w1.cell? ⟨w.heap.size, 0, none⟩ = some (.int .i32 gain) := by rw [chb _ _ (by first | (simp; done) | omega | (simp; omega))]; go_simp
  have ca1 : w1.cell? ⟨w.heap.size, 1, none⟩ = some (.int .i64 drag) := by rw [chb _ _ (by first | (simp; done) | omega | (simp; omega))]; go_simp
  have ca2 : w1.cell? ⟨w.heap.size, 2, none⟩ = some (.int .i32 low) := by rw [chb _ _ (by first | (simp; done) | omega | (simp; omega))]; go_simp
  have ca3 : w1.cell? ⟨w.heap.size, 3, none⟩ = some (.int .i32 high) := by rw [chb _ _ (by first | (simp; done) | omega | (simp; omega))]; go_simp
  have cb0 : w1.cell? ⟨w.heap.size + 1, 0, none⟩ = some (.int .i32 pos) := by rw [chb _ _ (by first | (simp; done) | omega | (simp; omega))]; go_simp
  have cb1 : w1.cell? ⟨w.heap.size + 1, 1, none⟩ = some (.int .i32 vel) := by rw [chb _ _ (by first | (simp; done) | omega | (simp; omega))]; go_simp
  have cp0 : w1.cell? ⟨w.heap.size + 1 + 1, 0, none⟩ = some (.int .i32 p0) := by rw [chb _ _ (by first | (simp; done) | omega | (simp; omega))]; go_simp
  have cp1 : w1.cell? ⟨w.heap.size + 1 + 1, 1, none⟩ = some (.int .i32 p1) := by rw [chb _ _ (by first | (simp; done) | omega | (simp; omega))]; go_simp
  have cp2 : w1.cell? ⟨w.heap.size + 1 + 1, 2, none⟩ = some (.int .i32 p2) := by rw [chb _ _ (by first | (simp; done) | omega | (simp; omega))]; go_simp
  have cp3 : w1.cell? ⟨w.heap.size + 1 + 1, 3, none⟩ = some (.int .i32 p3) := by rw [chb _ _ (by first | (simp; done) | omega | (simp; omega))]; go_simp
  have cm0 : w1.cell? ⟨w.heap.size + 1 + 1 + 1, 0, none⟩ = some (.int .i64 m0) := by rw [chb _ _ (by first | (simp; done) | omega | (simp; omega))]; go_simp
  have cm1 : w1.cell? ⟨w.heap.size + 1 + 1 + 1, 1, none⟩ = some (.int .i64 m1) := by rw [chb _ _ (by first | (simp; done) | omega | (simp; omega))]; go_simp
  have cm2 : w1.cell? ⟨w.heap.size + 1 + 1 + 1, 2, none⟩ = some (.int .i64 m2) := by rw [chb _ _ (by first | (simp; done) | omega | (simp; omega))]; go_simp
  have cm3 : w1.cell? ⟨w.heap.size + 1 + 1 + 1, 3, none⟩ = some (.int .i64 m3) := by rw [chb _ _ (by first | (simp; done) | omega | (simp; omega))]; go_simp
  have B1 : Below w.heap.size w w1 := by repeat (first | exact Below.refl _ _ | refine Below.setCell ?_ (by first | (simp; done) | omega | (simp; omega)) _ | refine below_drewN ?_ _ | refine Below.trans ?_ (Below.mono hb (by first | (simp; done) | omega | (simp; omega))) | refine Below.alloc ?_ (by first | (simp; done) | omega | (simp; omega)) _)
  clear hb chb fhb
  have sw1_0 : w.heap.size < w1.heap.size := by omega
  have sw1_1 : w.heap.size + 1 < w1.heap.size := by omega
  have sw1_2 : w.heap.size + 1 + 1 < w1.heap.size := by omega
  have sw1_3 : w.heap.size + 1 + 1 + 1 < w1.heap.size := by omega
  go_wp2_with fail
  refine (ramStep_no _ _ _ _ _ _ _ _ _ _ _ _ _ _ _ _ H.out).mono ?_
  rintro e2 w2 ⟨rfl, hb⟩
  have zb := hb.size
  try (simp at zb)
  have BA : Below w1.heap.size w1 w2 := by repeat (first | exact Below.refl _ _ | refine Below.setCell ?_ (by first | (simp; done) | omega | (simp; omega)) _ | refine below_drewN ?_ _ | refine Below.trans ?_ (Below.mono hb (by first | (simp; done) | omega | (simp; omega))) | refine Below.alloc ?_ (by first | (simp; done) | omega | (simp; omega)) _)
  have B2 : Below w.heap.size w w2 := by repeat (first | exact Below.refl _ _ | exact B1 | refine Below.setCell ?_ (by first | (simp; done) | omega | (simp; omega)) _ | refine below_drewN ?_ _ | refine Below.trans ?_ (Below.mono BA (by first | (simp; done) | omega | (simp; omega))) | refine Below.alloc ?_ (by first | (simp; done) | omega | (simp; omega)) _)
  clear ca0 ca1 ca2 ca3 cb0 cb1 cp0 cp1 cp2 cp3 cm0 cm1 cm2 cm3 hb BA B1
  go_wp2
  go_ret
  refine ⟨ret_bool (by first | rfl | (simp; done)), ?_⟩
  repeat (first | exact Below.refl _ _ | exact B2 | refine Below.setCell ?_ (by first | (simp; done) | omega | (simp; omega)) _ | refine below_drewN ?_ _ | refine Below.alloc ?_ (by first | (simp; done) | omega | (simp; omega)) _)
theorem law (gain drag low high pos vel p0 p1 p2 p3 m0 m1 m2 m3 load : Int) (w : World) (hgain : -2147483648 ≤ gain ∧ gain ≤ 2147483647) (hdrag : -9223372036854775808 ≤ drag ∧ drag ≤ 9223372036854775807) (hlow : -2147483648 ≤ low ∧ low ≤ 2147483647) (hhigh : -2147483648 ≤ high ∧ high ≤ 2147483647) (hpos : -2147483648 ≤ pos ∧ pos ≤ 2147483647) (hvel : -2147483648 ≤ vel ∧ vel ≤ 2147483647) (hp0 : -2147483648 ≤ p0 ∧ p0 ≤ 2147483647) (hp1 : -2147483648 ≤ p1 ∧ p1 ≤ 2147483647) (hp2 : -2147483648 ≤ p2 ∧ p2 ≤ 2147483647) (hp3 : -2147483648 ≤ p3 ∧ p3 ≤ 2147483647) (hm0 : -9223372036854775808 ≤ m0 ∧ m0 ≤ 9223372036854775807) (hm1 : -9223372036854775808 ≤ m1 ∧ m1 ≤ 9223372036854775807) (hm2 : -9223372036854775808 ≤ m2 ∧ m2 ≤ 9223372036854775807) (hm3 : -9223372036854775808 ≤ m3 ∧ m3 ≤ 9223372036854775807) (hload : -2147483648 ≤ load ∧ load ≤ 2147483647) :
    Calls Try.prog 7 #[.agg #[.int .i32 gain, .int .i64 drag, .int .i32 low, .int .i32 high], .agg #[.int .i32 pos, .int .i32 vel], .agg #[.int .i32 p0, .int .i32 p1, .int .i32 p2, .int .i32 p3], .agg #[.int .i64 m0, .int .i64 m1, .int .i64 m2, .int .i64 m3], .int .i32 load] w
      fun e w' => e = .returned (.bool true) ∧ Below w.heap.size w w' := by
  by_cases h : ramBad gain drag low high pos
  · exact no _ _ _ _ _ _ _ _ _ _ _ _ _ _ _ w hgain hlow hhigh hpos hvel hp0 hp1 hp2 hp3 hload (.inl h)
  · by_cases hm : ModesOk m0 m1 m2 m3
    · have h' : low ≤ pos ∧ pos ≤ high ∧ 0 ≤ drag ∧ drag ≤ 8 := by unfold ramBad at h; omega
      have hb : ∀ d, low ≤ ramPos gain d low high pos load (sel m0 m1 m2 m3) (sel p0 p1 p2 p3) ∧ ramPos gain d low high pos load (sel m0 m1 m2 m3) (sel p0 p1 p2 p3) ≤ high := fun d => by
        unfold ramPos clampI; omega
      have key : ∃ c, ¬ ramBad gain c low high pos ∧ ((drag = 8 ∧ c = 8) ∨ (drag = 7 ∧ c = 8) ∨ (0 ≤ drag ∧ drag < 7 ∧ c = drag + 1)) ∧
          apartI (ramPos gain c low high pos load (sel m0 m1 m2 m3) (sel p0 p1 p2 p3)) pos ≤ apartI (ramPos gain drag low high pos load (sel m0 m1 m2 m3) (sel p0 p1 p2 p3)) pos + 1 := by
        by_cases h8 : drag = 8
        · exact ⟨8, by unfold ramBad at h ⊢; omega, by omega, by subst h8; omega⟩
        · refine ⟨drag + 1, by unfold ramBad at h ⊢; omega, by omega, ?_⟩
          unfold ramPos
          rw [way_half gain drag load _ _ (by omega)]
          exact half_near pos _ low high (by omega) (by omega) (by omega)
      obtain ⟨c, h1, h2, h3⟩ := key
      have b1 := hb drag
      have b2 := hb c
      exact yes gain drag low high pos vel p0 p1 p2 p3 m0 m1 m2 m3 load c _ _ _ _ w hgain hlow hhigh hpos hvel hp0 hp1 hp2 hp3 hload h h1 hm h2 rfl rfl rfl rfl (by omega) (by omega) (decide_eq_true b1.1) (decide_eq_true b1.2) (decide_eq_true h3)
    · exact no _ _ _ _ _ _ _ _ _ _ _ _ _ _ _ w hgain hlow hhigh hpos hvel hp0 hp1 hp2 hp3 hload (.inr ⟨h, hm⟩)
set_option maxRecDepth 100000 in
theorem lifted (os : Os) (started : os.Started) (H : Type) (enc : TypeId × Value → H) :
    ReturnsInHanded {} Try.checked os 7 .any (Rows.ramEndsSpec.pre6 enc Try.prog Try.f7 Rows.ramEndsRow.domain false) (Rows.ramEndsSpec.post enc Try.prog Try.f7 false true false false) := by
  refine returnsInHanded_of_change (C := Try.checked) own started (by kernel_rfl) Try.func7
    (ChangeSpec.witness6 (enc := enc) (C := Try.checked) false ⟨#[], #[.agg #[.int .i32 0, .int .i64 0, .int .i32 0, .int .i32 0], .agg #[.int .i32 0, .int .i32 0], .agg #[.int .i32 0, .int .i32 0, .int .i32 0, .int .i32 0], .agg #[.int .i64 0, .int .i64 0, .int .i64 0, .int .i64 0], .int .i32 0], []⟩ 8 (by kernel_rfl) (by kernel_rfl) (by kernel_rfl) (by kernel_rfl)) ?_
  intro W base args ds gs before hval0 hW hcnd _
  have hval : ∀ (j : Nat) t v, Try.f7.params[j]? = some t → args[j]? = some v → Value.okWide Try.prog W .any base t v := hval0
  have hW' := hW
  obtain ⟨p, q, hA0, hV, rfl, hfz, hnd⟩ := hW
  have hA : DataW.TrodAll enc Try.prog W 0 (fun _ => true) true Try.f7.params.toList args.toList ds p := hA0
  rw [Try.params7] at hA hval
  obtain ⟨v0, vs0, d0, ds0, p0, q0, hargs, rfl, rfl, h0, r0⟩ := trodAll_cons hA
  obtain ⟨v1, vs1, d1, ds1, p1, q1, rfl, rfl, rfl, h1, r1⟩ := trodAll_cons r0
  obtain ⟨v2, vs2, d2, ds2, p2, q2, rfl, rfl, rfl, h2, r2⟩ := trodAll_cons r1
  obtain ⟨v3, vs3, d3, ds3, p3, q3, rfl, rfl, rfl, h3, r3⟩ := trodAll_cons r2
  obtain ⟨v4, vs4, d4, ds4, p4, q4, rfl, rfl, rfl, h4, r4⟩ := trodAll_cons r3
  obtain ⟨rfl, rfl, rfl⟩ := trodAll_nil r4
  obtain rfl : args = #[v0, v1, v2, v3, v4] := by cases args; simp_all
  obtain ⟨rfl, rfl⟩ := trodVars_none hV
  have k0 := h0
  have lt0 : ∀ x ∈ p0, x.block < W.heap.size := by obtain ⟨m, hm⟩ := k0; exact DataW.trod_lt m _ _ _ hm
  have k1 := h1
  have lt1 : ∀ x ∈ p1, x.block < W.heap.size := by obtain ⟨m, hm⟩ := k1; exact DataW.trod_lt m _ _ _ hm
  have k2 := h2
  have lt2 : ∀ x ∈ p2, x.block < W.heap.size := by obtain ⟨m, hm⟩ := k2; exact DataW.trod_lt m _ _ _ hm
  have k3 := h3
  have lt3 : ∀ x ∈ p3, x.block < W.heap.size := by obtain ⟨m, hm⟩ := k3; exact DataW.trod_lt m _ _ _ hm
  have k4 := h4
  have lt4 : ∀ x ∈ p4, x.block < W.heap.size := by obtain ⟨m, hm⟩ := k4; exact DataW.trod_lt m _ _ _ hm
  obtain ⟨cs0, rfl, lf0_0⟩ := open_flat 12 [21, 3, 21, 21] (by kernel_rfl) (by kernel_rfl) (by kernel_rfl) (hval 0 57 v0 rfl rfl) h0
  obtain ⟨c0_0, r0_0, rfl, y0_0, lf0_1⟩ := leafs_cons lf0_0
  obtain ⟨a0_0, rfl, w0_0⟩ := leaf_int Try.underlying21 y0_0
  obtain ⟨c0_1, r0_1, rfl, y0_1, lf0_2⟩ := leafs_cons lf0_1
  obtain ⟨a0_1, rfl, w0_1⟩ := leaf_int Try.underlying3 y0_1
  obtain ⟨c0_2, r0_2, rfl, y0_2, lf0_3⟩ := leafs_cons lf0_2
  obtain ⟨a0_2, rfl, w0_2⟩ := leaf_int Try.underlying21 y0_2
  obtain ⟨c0_3, r0_3, rfl, y0_3, lf0_4⟩ := leafs_cons lf0_3
  obtain ⟨a0_3, rfl, w0_3⟩ := leaf_int Try.underlying21 y0_3
  obtain rfl := leafs_nil lf0_4
  obtain ⟨cs1, rfl, lf1_0⟩ := open_flat 12 [21, 21] (by kernel_rfl) (by kernel_rfl) (by kernel_rfl) (hval 1 59 v1 rfl rfl) h1
  obtain ⟨c1_0, r1_0, rfl, y1_0, lf1_1⟩ := leafs_cons lf1_0
  obtain ⟨a1_0, rfl, w1_0⟩ := leaf_int Try.underlying21 y1_0
  obtain ⟨c1_1, r1_1, rfl, y1_1, lf1_2⟩ := leafs_cons lf1_1
  obtain ⟨a1_1, rfl, w1_1⟩ := leaf_int Try.underlying21 y1_1
  obtain rfl := leafs_nil lf1_2
  obtain ⟨cs2, rfl, lf2_0⟩ := open_flat 12 [21, 21, 21, 21] (by kernel_rfl) (by kernel_rfl) (by kernel_rfl) (hval 2 22 v2 rfl rfl) h2
  obtain ⟨c2_0, r2_0, rfl, y2_0, lf2_1⟩ := leafs_cons lf2_0
  obtain ⟨a2_0, rfl, w2_0⟩ := leaf_int Try.underlying21 y2_0
  obtain ⟨c2_1, r2_1, rfl, y2_1, lf2_2⟩ := leafs_cons lf2_1
  obtain ⟨a2_1, rfl, w2_1⟩ := leaf_int Try.underlying21 y2_1
  obtain ⟨c2_2, r2_2, rfl, y2_2, lf2_3⟩ := leafs_cons lf2_2
  obtain ⟨a2_2, rfl, w2_2⟩ := leaf_int Try.underlying21 y2_2
  obtain ⟨c2_3, r2_3, rfl, y2_3, lf2_4⟩ := leafs_cons lf2_3
  obtain ⟨a2_3, rfl, w2_3⟩ := leaf_int Try.underlying21 y2_3
  obtain rfl := leafs_nil lf2_4
  obtain ⟨cs3, rfl, lf3_0⟩ := open_flat 12 [3, 3, 3, 3] (by kernel_rfl) (by kernel_rfl) (by kernel_rfl) (hval 3 52 v3 rfl rfl) h3
  obtain ⟨c3_0, r3_0, rfl, y3_0, lf3_1⟩ := leafs_cons lf3_0
  obtain ⟨a3_0, rfl, w3_0⟩ := leaf_int Try.underlying3 y3_0
  obtain ⟨c3_1, r3_1, rfl, y3_1, lf3_2⟩ := leafs_cons lf3_1
  obtain ⟨a3_1, rfl, w3_1⟩ := leaf_int Try.underlying3 y3_1
  obtain ⟨c3_2, r3_2, rfl, y3_2, lf3_3⟩ := leafs_cons lf3_2
  obtain ⟨a3_2, rfl, w3_2⟩ := leaf_int Try.underlying3 y3_2
  obtain ⟨c3_3, r3_3, rfl, y3_3, lf3_4⟩ := leafs_cons lf3_3
  obtain ⟨a3_3, rfl, w3_3⟩ := leaf_int Try.underlying3 y3_3
  obtain rfl := leafs_nil lf3_4
  obtain ⟨a4, rfl, rfl, rfl, w4⟩ := open_int Try.underlying21 (hval 4 21 v4 rfl rfl) h4
  clear hA0 hval0
  refine (law a0_0 a0_1 a0_2 a0_3 a1_0 a1_1 a2_0 a2_1 a2_2 a2_3 a3_0 a3_1 a3_2 a3_3 a4 W (bounds_i32 w0_0) (bounds_i64 w0_1) (bounds_i32 w0_2) (bounds_i32 w0_3) (bounds_i32 w1_0) (bounds_i32 w1_1) (bounds_i32 w2_0) (bounds_i32 w2_1) (bounds_i32 w2_2) (bounds_i32 w2_3) (bounds_i64 w3_0) (bounds_i64 w3_1) (bounds_i64 w3_2) (bounds_i64 w3_3) (bounds_i32 w4)).mono fun e W' ⟨he, bel⟩ => ?_
  subst he
  exact ⟨_, rfl, _, _, _, [], _, [], hW', trodAll_mk1 (shut_bool Try.underlying4 _), (trodAll_cons_mk (Below.trod laidOut (by kernel_rfl) (of_decide_eq_true (by kernel_rfl)) k0 bel lt0) (trodAll_cons_mk (Below.trod laidOut (by kernel_rfl) (of_decide_eq_true (by kernel_rfl)) k1 bel lt1) (trodAll_cons_mk (Below.trod laidOut (by kernel_rfl) (of_decide_eq_true (by kernel_rfl)) k2 bel lt2) (trodAll_cons_mk (Below.trod laidOut (by kernel_rfl) (of_decide_eq_true (by kernel_rfl)) k3 bel lt3) (trodAll_cons_mk (Below.trod laidOut (by kernel_rfl) (of_decide_eq_true (by kernel_rfl)) k4 bel lt4) trodAll_mk0))))), rfl, bel.frame _, fun h => by cases h⟩
theorem over : Rows.ramEndsRow.holds Try.pinned (OpenSpec.ofChange Rows.ramEndsSpec) :=
  OpenClaim.holds_of_wide 7 Try.f7 rfl rfl rfl rfl rfl rfl rfl ⟨rfl, rfl, rfl, rfl, rfl⟩ rfl rfl rfl rfl rfl (by kernel_rfl) Try.func7 (by kernel_rfl)
    (of_decide_eq_true (by kernel_rfl)) (by unfold Func.isWrapper; first | (rw [if_pos (by decide +kernel)]; kernel_rfl) | (rw [if_neg (by decide +kernel)]; exact ⟨rfl, rfl⟩))
    (fun os started H enc _ => lifted os started H enc)
theorem proved : Rows.RamEndsSaid := over
#print axioms proved

end Go.Proofs.Ytacelddnklnhpaa.ramEnds
