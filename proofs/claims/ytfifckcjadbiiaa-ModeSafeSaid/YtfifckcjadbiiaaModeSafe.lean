/- ModeSafe: whatever is asked for, the law answers true and leaves memory as it was. -/
import Derived.Test.YtfifckcjadbiiaaMode
import Derived.Test.YtfifckcjadbiiaaSat
namespace Go.Proofs.Ytfifckcjadbiiaa.modeSafe
open Go.ChangeShapes Go.WideShapes Go.ChangeAt Go.RowKit Go.Proofs.Ytfifckcjadbiiaa Go.Proofs.Ytfifckcjadbiiaa.Open
set_option linter.unusedVariables false
/-- the whole, and whether it was served and not tried since -/
def Inv (m : Int) (p g s : Bool) : Prop := ModeOk m p g ∧ (m = 3 → s = true) ∧ (s = true → p = false ∧ m ≠ 2)
/-- what stands behind one step that was allowed -/
def Next (m : Int) (p g s : Bool) : Prop := ModeOk m p g ∧ Inv m p g (s || (m == 3)) ∧ (m = 1 ∨ (m = 2 ∧ p = true ∧ s = false) ∨ (m = 3 ∧ g = true))
theorem ask_next (m : Int) (p g s : Bool) (want : Int) (hw : 0 ≤ want ∧ want ≤ 3) (h : Inv m p g s) (m' e : Int) (p' g' : Bool) (hr : askI m p g want = ((m', p', g'), e)) :
    e ≠ 0 ∨ (e = 0 ∧ Next m' p' g' s) := by
  obtain ⟨h1, h2, h3⟩ := h
  rcases (by unfold ModeOk at h1; omega : m = 1 ∨ m = 2 ∨ m = 3) with rfl | rfl | rfl <;> rcases (by omega : want = 0 ∨ want = 1 ∨ want = 2 ∨ want = 3) with rfl | rfl | rfl | rfl <;> cases p <;> cases g <;> cases s <;> simp [ModeOk] at h1 h2 h3 <;> simp [askI] at hr <;> obtain ⟨⟨rfl, rfl, rfl⟩, rfl⟩ := hr <;> simp [Next, Inv, ModeOk]
theorem ground_next (m : Int) (p g s on : Bool) (h : Inv m p g s) (m' : Int) (hr : groundI m on = m') : Next m' p on s := by
  obtain ⟨h1, h2, h3⟩ := h
  rcases (by unfold ModeOk at h1; omega : m = 1 ∨ m = 2 ∨ m = 3) with rfl | rfl | rfl <;> cases on <;> cases p <;> cases g <;> cases s <;> simp [ModeOk] at h1 h2 h3 <;> simp [groundI] at hr <;> subst hr <;> simp [Next, Inv, ModeOk]
theorem tested_next (m : Int) (p g s pass : Bool) (h : Inv m p g s) (m' e : Int) (p' g' : Bool) (hr : testedI m p g pass = ((m', p', g'), e)) :
    e ≠ 0 ∨ (e = 0 ∧ Next m' p' g' false) := by
  obtain ⟨h1, h2, h3⟩ := h
  rcases (by unfold ModeOk at h1; omega : m = 1 ∨ m = 2 ∨ m = 3) with rfl | rfl | rfl <;> cases pass <;> cases p <;> cases g <;> cases s <;> simp [ModeOk] at h1 h2 h3 <;> simp [testedI] at hr <;> obtain ⟨⟨rfl, rfl, rfl⟩, rfl⟩ := hr <;> simp [Next, Inv, ModeOk]
/-- what holds at each round's head -/
def Rel (w w1 : World) (len : Nat) (sv i : Value) (wr : World) : Prop := ∃ (k : Nat) (m : Int) (p g s : Bool), k ≤ len ∧ i = .int .i64 k ∧ sv = .bool s ∧ Hid (Inv m p g s) ∧ Below w.heap.size w wr ∧ w1.heap.size + 1 < wr.heap.size ∧
      wr.cell? ⟨w1.heap.size + 1, 0, none⟩ = some (.int .i64 m) ∧ wr.cell? ⟨w1.heap.size + 1, 1, none⟩ = some (.bool p) ∧ wr.cell? ⟨w1.heap.size + 1, 2, none⟩ = some (.bool g) ∧ (∀ o, wr.frozen? ⟨w1.heap.size + 1, o, none⟩ = false)
theorem rel_mk {w w1 wr : World} {len : Nat} {sv i : Value} (k : Nat) (m : Int) (p g s : Bool) (hk : k ≤ len) (hi : i = .int .i64 k) (hs : sv = .bool s) (hinv : Hid (Inv m p g s)) (hB : Below w.heap.size w wr) (hz : w1.heap.size + 1 < wr.heap.size)
    (c0 : wr.cell? ⟨w1.heap.size + 1, 0, none⟩ = some (.int .i64 m)) (c1 : wr.cell? ⟨w1.heap.size + 1, 1, none⟩ = some (.bool p)) (c2 : wr.cell? ⟨w1.heap.size + 1, 2, none⟩ = some (.bool g)) (hf : ∀ o, wr.frozen? ⟨w1.heap.size + 1, o, none⟩ = false) : Rel w w1 len sv i wr :=
  ⟨k, m, p, g, s, hk, hi, hs, hinv, hB, hz, c0, c1, c2, hf⟩
set_option maxHeartbeats 8000000 in
set_option maxRecDepth 100000 in
theorem law (a : Option Addr) (len cap : Nat) (zs : List Int) (w : World) (hrow : IsRow .i64 w a len cap zs) (hr : len ≤ cap ∧ cap * 8 ≤ 140737488351232) :
    Calls Try.prog 5 #[.slice a len cap] w fun e w' => e = .returned (.bool true) ∧ Below w.heap.size w w' := by
  have HR := Lib.hid hrow
  have K1 : Hid (ModeOk 1 true false) := (.inl rfl : ModeOk 1 true false)
  have K2 : Hid (askI 1 true false 2 = ((2, true, false), 0)) := (by decide : askI 1 true false 2 = ((2, true, false), 0))
  clear hrow
  go_enter Try.func5, Try.ntmps5
  go_wp2_with fail
  refine (ask_any _ _ _ _ 2 0 true false _ K1.out (by omega) K2.out).mono ?_
  rintro e1 w1 ⟨rfl, hb1⟩
  have zb1 := hb1.size
  go_wp2
  go_loopw [6, 27] (fun sv i wr => Rel w w1 len sv i wr) (fun _ i _ => len - (intOf i).toNat)
  case atStart =>
    refine rel_mk 0 1 false true false (Nat.zero_le _) rfl rfl (⟨.inl rfl, by omega, by simp⟩ : Inv 1 false true false) (by repeat (first | with_reducible exact Below.refl _ _ | with_reducible exact hb1 | ((with_reducible refine Below.setCell ?_ ?_ _); rotate_left; (· first | (simp; done) | omega | (simp; omega))) | with_reducible refine below_drewN ?_ _ | with_reducible refine Below.drew ?_ | ((with_reducible refine Below.alloc ?_ ?_ _); rotate_left; (· first | (simp; done) | omega | (simp; omega))) | exact Below.refl _ _ | exact hb1 | refine Below.setCell ?_ (by first | (simp; done) | omega | (simp; omega)) _ | refine below_drewN ?_ _ | refine Below.drew ?_ | refine Below.alloc ?_ (by first | (simp; done) | omega | (simp; omega)) _)) (by simp) (by go_simp) (by go_simp) (by go_simp) ?_
    intro o; go_simp
  case round =>
    obtain ⟨k, m, p, g, s, hk, rfl, rfl, hinv, hB, hsz, c0, c1, c2, hf⟩ := hrel
    by_cases hlt : k < len
    · obtain ⟨b, off, rfl, -, -, -, hcell, hwf⟩ := HR.out.pos (by omega)
      have hx := cell_later hB (hcell k (by omega))
      have hv := bounds_i64 (hwf k)
      have hbl := World.block_lt_of_cell? _ _ (hcell k (by omega))
      simp at hbl
      have hb2 : b < wr.heap.size := by omega
      have R := restI_bd (zs.getD k 0) 8 (by omega)
      have HV := Lib.hid hinv.out.1
      clear hcell hwf
      generalize zs.getD k 0 = x at *
      go_wp2_with fail
      refine (rest_any _ _ (by omega) _).mono ?_
      rintro e2 w2 ⟨rfl, rfl⟩
      generalize restI x 8 = r at *
      rcases (by omega : r < 4 ∨ (4 ≤ r ∧ r < 6) ∨ (4 ≤ r ∧ 6 ≤ r)) with q | ⟨q, q'⟩ | ⟨q, q'⟩
      · obtain ⟨⟨⟨m', p', g'⟩, e⟩, hy⟩ : ∃ y, askI m p g r = y := ⟨_, rfl⟩
        have HY := Lib.hid hy
        have hnext := ask_next m p g s r (by omega) hinv.out m' e p' g' hy
        have HNX := Lib.hid hnext
        have HRR := Lib.hid (by omega : r = 0 ∨ r = 1 ∨ r = 2 ∨ r = 3)
        clear hy hnext
        have d1 : decide (r < 4) = true := decide_eq_true q
        go_wp2_with fail
        refine (ask_any _ _ _ _ m' e p' g' _ HV.out HRR.out HY.out).mono ?_
        rintro e3 w3 ⟨rfl, hb3⟩
        have zb3 := hb3.size
        simp at zb3
        have BA : Below wr.heap.size wr w3 := by repeat (first | with_reducible exact Below.refl _ _ | ((with_reducible refine Below.setCell ?_ ?_ _); rotate_left; (· first | (simp; done) | omega | (simp; omega))) | with_reducible refine below_drewN ?_ _ | with_reducible refine Below.drew ?_ | ((with_reducible refine Below.trans ?_ (Below.mono hb3 ?_)); rotate_left; (· first | (simp; done) | omega | (simp; omega))) | ((with_reducible refine Below.alloc ?_ ?_ _); rotate_left; (· first | (simp; done) | omega | (simp; omega))) | exact Below.refl _ _ | refine Below.setCell ?_ (by first | (simp; done) | omega | (simp; omega)) _ | refine below_drewN ?_ _ | refine Below.drew ?_ | refine Below.trans ?_ (Below.mono hb3 (by first | (simp; done) | omega | (simp; omega))) | refine Below.alloc ?_ (by first | (simp; done) | omega | (simp; omega)) _)
        have B3 : Below w.heap.size w w3 := hB.trans (BA.mono (by have := hB.size; omega))
        have y0 : w3.cell? ⟨wr.heap.size, 0, none⟩ = some (.int .i64 0) := cell_later hb3 (by go_simp)
        have y1 : w3.cell? ⟨wr.heap.size, 1, none⟩ = some (.bool false) := cell_later hb3 (by go_simp)
        have y2 : w3.cell? ⟨wr.heap.size, 2, none⟩ = some (.bool false) := cell_later hb3 (by go_simp)
        have yf : ∀ o, w3.frozen? ⟨wr.heap.size, o, none⟩ = false := fun o => by rw [hb3.frozen (by simp)]; go_simp
        replace hf : ∀ o, w3.frozen? ⟨w1.heap.size + 1, o, none⟩ = false := fun o => by rw [BA.frozen (by simp; omega)]; exact hf o
        replace c0 := cell_later BA c0
        replace c1 := cell_later BA c1
        replace c2 := cell_later BA c2
        have s1 : w1.heap.size + 1 < w3.heap.size := by omega
        have s2 : wr.heap.size < w3.heap.size := by omega
        have s3 : w.heap.size ≤ wr.heap.size := hB.size
        have s4 : w.heap.size ≤ w1.heap.size := zb1
        clear hb3 BA hB hx hbl hb2
        rcases HNX.out with he | ⟨rfl, hn⟩
        · have HE : (e == 0) = false := by simpa using he
          have HE2 : (e != 0) = true := by simpa using he
          clear he
          cases s
          · go_wp2
            go_roundw
            case rel => exact rel_mk (k + 1) m p g false (by omega) (by go_num) rfl hinv (by repeat (first | with_reducible exact Below.refl _ _ | with_reducible exact B3 | ((with_reducible refine Below.setCell ?_ ?_ _); rotate_left; (· first | (simp; done) | omega | (simp; omega))) | with_reducible refine below_drewN ?_ _ | with_reducible refine Below.drew ?_ | ((with_reducible refine Below.alloc ?_ ?_ _); rotate_left; (· first | (simp; done) | omega | (simp; omega))) | exact Below.refl _ _ | exact B3 | refine Below.setCell ?_ (by first | (simp; done) | omega | (simp; omega)) _ | refine below_drewN ?_ _ | refine Below.drew ?_ | refine Below.alloc ?_ (by first | (simp; done) | omega | (simp; omega)) _)) (by first | (simp; done) | omega | (simp; omega)) (by go_simp) (by go_simp) (by go_simp) (by intro o; go_simp)
            case measure => simp [intOf]; omega
          · go_wp2
            go_roundw
            case rel => exact rel_mk (k + 1) m p g true (by omega) (by go_num) rfl hinv (by repeat (first | with_reducible exact Below.refl _ _ | with_reducible exact B3 | ((with_reducible refine Below.setCell ?_ ?_ _); rotate_left; (· first | (simp; done) | omega | (simp; omega))) | with_reducible refine below_drewN ?_ _ | with_reducible refine Below.drew ?_ | ((with_reducible refine Below.alloc ?_ ?_ _); rotate_left; (· first | (simp; done) | omega | (simp; omega))) | exact Below.refl _ _ | exact B3 | refine Below.setCell ?_ (by first | (simp; done) | omega | (simp; omega)) _ | refine below_drewN ?_ _ | refine Below.drew ?_ | refine Below.alloc ?_ (by first | (simp; done) | omega | (simp; omega)) _)) (by first | (simp; done) | omega | (simp; omega)) (by go_simp) (by go_simp) (by go_simp) (by intro o; go_simp)
            case measure => simp [intOf]; omega
        · obtain ⟨hn1, hn2, hn3⟩ := hn
          have HN1 := Lib.hid hn1; have HN2 := Lib.hid hn2
          clear hn1 hn2
          rcases hn3 with rfl | ⟨rfl, rfl, rfl⟩ | ⟨rfl, rfl⟩
          · cases s
            · go_wp2_with fail
              refine (modeCheck_yes _ _ _ _ HN1.out).mono ?_
              rintro e4 w4 ⟨rfl, rfl⟩
              go_wp2_with fail
              go_roundw
              case rel => exact rel_mk (k + 1) 1 p' g' false (by omega) (by go_num) rfl (by have := HN2.out; simpa using this : Inv 1 p' g' false) (by repeat (first | with_reducible exact Below.refl _ _ | with_reducible exact B3 | ((with_reducible refine Below.setCell ?_ ?_ _); rotate_left; (· first | (simp; done) | omega | (simp; omega))) | with_reducible refine below_drewN ?_ _ | with_reducible refine Below.drew ?_ | ((with_reducible refine Below.alloc ?_ ?_ _); rotate_left; (· first | (simp; done) | omega | (simp; omega))) | exact Below.refl _ _ | exact B3 | refine Below.setCell ?_ (by first | (simp; done) | omega | (simp; omega)) _ | refine below_drewN ?_ _ | refine Below.drew ?_ | refine Below.alloc ?_ (by first | (simp; done) | omega | (simp; omega)) _)) (by first | (simp; done) | omega | (simp; omega)) (by go_simp) (by go_simp) (by go_simp) (by intro o; go_simp)
              case measure => simp [intOf]; omega
            · go_wp2_with fail
              refine (modeCheck_yes _ _ _ _ HN1.out).mono ?_
              rintro e4 w4 ⟨rfl, rfl⟩
              go_wp2_with fail
              go_roundw
              case rel => exact rel_mk (k + 1) 1 p' g' true (by omega) (by go_num) rfl (by have := HN2.out; simpa using this : Inv 1 p' g' true) (by repeat (first | with_reducible exact Below.refl _ _ | with_reducible exact B3 | ((with_reducible refine Below.setCell ?_ ?_ _); rotate_left; (· first | (simp; done) | omega | (simp; omega))) | with_reducible refine below_drewN ?_ _ | with_reducible refine Below.drew ?_ | ((with_reducible refine Below.alloc ?_ ?_ _); rotate_left; (· first | (simp; done) | omega | (simp; omega))) | exact Below.refl _ _ | exact B3 | refine Below.setCell ?_ (by first | (simp; done) | omega | (simp; omega)) _ | refine below_drewN ?_ _ | refine Below.drew ?_ | refine Below.alloc ?_ (by first | (simp; done) | omega | (simp; omega)) _)) (by first | (simp; done) | omega | (simp; omega)) (by go_simp) (by go_simp) (by go_simp) (by intro o; go_simp)
              case measure => simp [intOf]; omega
          · go_wp2_with fail
            refine (modeCheck_yes _ _ _ _ HN1.out).mono ?_
            rintro e4 w4 ⟨rfl, rfl⟩
            go_wp2_with fail
            go_roundw
            case rel => exact rel_mk (k + 1) 2 true g' false (by omega) (by go_num) rfl (by have := HN2.out; simpa using this : Inv 2 true g' false) (by repeat (first | with_reducible exact Below.refl _ _ | with_reducible exact B3 | ((with_reducible refine Below.setCell ?_ ?_ _); rotate_left; (· first | (simp; done) | omega | (simp; omega))) | with_reducible refine below_drewN ?_ _ | with_reducible refine Below.drew ?_ | ((with_reducible refine Below.alloc ?_ ?_ _); rotate_left; (· first | (simp; done) | omega | (simp; omega))) | exact Below.refl _ _ | exact B3 | refine Below.setCell ?_ (by first | (simp; done) | omega | (simp; omega)) _ | refine below_drewN ?_ _ | refine Below.drew ?_ | refine Below.alloc ?_ (by first | (simp; done) | omega | (simp; omega)) _)) (by first | (simp; done) | omega | (simp; omega)) (by go_simp) (by go_simp) (by go_simp) (by intro o; go_simp)
            case measure => simp [intOf]; omega
          · cases s
            · go_wp2_with fail
              refine (modeCheck_yes _ _ _ _ HN1.out).mono ?_
              rintro e4 w4 ⟨rfl, rfl⟩
              go_wp2_with fail
              go_roundw
              case rel => exact rel_mk (k + 1) 3 p' true true (by omega) (by go_num) rfl (by have := HN2.out; simpa using this : Inv 3 p' true true) (by repeat (first | with_reducible exact Below.refl _ _ | with_reducible exact B3 | ((with_reducible refine Below.setCell ?_ ?_ _); rotate_left; (· first | (simp; done) | omega | (simp; omega))) | with_reducible refine below_drewN ?_ _ | with_reducible refine Below.drew ?_ | ((with_reducible refine Below.alloc ?_ ?_ _); rotate_left; (· first | (simp; done) | omega | (simp; omega))) | exact Below.refl _ _ | exact B3 | refine Below.setCell ?_ (by first | (simp; done) | omega | (simp; omega)) _ | refine below_drewN ?_ _ | refine Below.drew ?_ | refine Below.alloc ?_ (by first | (simp; done) | omega | (simp; omega)) _)) (by first | (simp; done) | omega | (simp; omega)) (by go_simp) (by go_simp) (by go_simp) (by intro o; go_simp)
              case measure => simp [intOf]; omega
            · go_wp2_with fail
              refine (modeCheck_yes _ _ _ _ HN1.out).mono ?_
              rintro e4 w4 ⟨rfl, rfl⟩
              go_wp2_with fail
              go_roundw
              case rel => exact rel_mk (k + 1) 3 p' true true (by omega) (by go_num) rfl (by have := HN2.out; simpa using this : Inv 3 p' true true) (by repeat (first | with_reducible exact Below.refl _ _ | with_reducible exact B3 | ((with_reducible refine Below.setCell ?_ ?_ _); rotate_left; (· first | (simp; done) | omega | (simp; omega))) | with_reducible refine below_drewN ?_ _ | with_reducible refine Below.drew ?_ | ((with_reducible refine Below.alloc ?_ ?_ _); rotate_left; (· first | (simp; done) | omega | (simp; omega))) | exact Below.refl _ _ | exact B3 | refine Below.setCell ?_ (by first | (simp; done) | omega | (simp; omega)) _ | refine below_drewN ?_ _ | refine Below.drew ?_ | refine Below.alloc ?_ (by first | (simp; done) | omega | (simp; omega)) _)) (by first | (simp; done) | omega | (simp; omega)) (by go_simp) (by go_simp) (by go_simp) (by intro o; go_simp)
              case measure => simp [intOf]; omega

      · obtain ⟨m', hy⟩ : ∃ y, groundI m (r == 4) = y := ⟨_, rfl⟩
        have HY := Lib.hid hy
        have hnext := ground_next m p g s (r == 4) hinv.out m' hy
        have HNX := Lib.hid hnext
        clear hy hnext
        have d1 : decide (r < 4) = false := decide_eq_false (by omega)
        have d2 : decide (r < 6) = true := decide_eq_true q'
        generalize hg4 : (r == 4) = on at *
        go_wp2_with fail
        refine (ground_any _ _ _ _ m' _ HV.out HY.out).mono ?_
        rintro e3 w3 ⟨rfl, hb3⟩
        have zb3 := hb3.size
        simp at zb3
        have BA : Below wr.heap.size wr w3 := by repeat (first | with_reducible exact Below.refl _ _ | ((with_reducible refine Below.setCell ?_ ?_ _); rotate_left; (· first | (simp; done) | omega | (simp; omega))) | with_reducible refine below_drewN ?_ _ | with_reducible refine Below.drew ?_ | ((with_reducible refine Below.trans ?_ (Below.mono hb3 ?_)); rotate_left; (· first | (simp; done) | omega | (simp; omega))) | ((with_reducible refine Below.alloc ?_ ?_ _); rotate_left; (· first | (simp; done) | omega | (simp; omega))) | exact Below.refl _ _ | refine Below.setCell ?_ (by first | (simp; done) | omega | (simp; omega)) _ | refine below_drewN ?_ _ | refine Below.drew ?_ | refine Below.trans ?_ (Below.mono hb3 (by first | (simp; done) | omega | (simp; omega))) | refine Below.alloc ?_ (by first | (simp; done) | omega | (simp; omega)) _)
        have B3 : Below w.heap.size w w3 := hB.trans (BA.mono (by have := hB.size; omega))
        have y0 : w3.cell? ⟨wr.heap.size, 0, none⟩ = some (.int .i64 0) := cell_later hb3 (by go_simp)
        have y1 : w3.cell? ⟨wr.heap.size, 1, none⟩ = some (.bool false) := cell_later hb3 (by go_simp)
        have y2 : w3.cell? ⟨wr.heap.size, 2, none⟩ = some (.bool false) := cell_later hb3 (by go_simp)
        have yf : ∀ o, w3.frozen? ⟨wr.heap.size, o, none⟩ = false := fun o => by rw [hb3.frozen (by simp)]; go_simp
        replace hf : ∀ o, w3.frozen? ⟨w1.heap.size + 1, o, none⟩ = false := fun o => by rw [BA.frozen (by simp; omega)]; exact hf o
        replace c0 := cell_later BA c0
        replace c1 := cell_later BA c1
        replace c2 := cell_later BA c2
        have s1 : w1.heap.size + 1 < w3.heap.size := by omega
        have s2 : wr.heap.size < w3.heap.size := by omega
        have s3 : w.heap.size ≤ wr.heap.size := hB.size
        have s4 : w.heap.size ≤ w1.heap.size := zb1
        clear hb3 BA hB hx hbl hb2
        have hn := HNX.out
        obtain ⟨hn1, hn2, hn3⟩ := hn
        have HN1 := Lib.hid hn1; have HN2 := Lib.hid hn2
        clear hn1 hn2
        rcases hn3 with rfl | ⟨rfl, rfl, rfl⟩ | ⟨rfl, rfl⟩
        · cases s
          · go_wp2_with fail
            refine (modeCheck_yes _ _ _ _ HN1.out).mono ?_
            rintro e4 w4 ⟨rfl, rfl⟩
            go_wp2_with fail
            go_roundw
            case rel => exact rel_mk (k + 1) 1 p on false (by omega) (by go_num) rfl (by have := HN2.out; simpa using this : Inv 1 p on false) (by repeat (first | with_reducible exact Below.refl _ _ | with_reducible exact B3 | ((with_reducible refine Below.setCell ?_ ?_ _); rotate_left; (· first | (simp; done) | omega | (simp; omega))) | with_reducible refine below_drewN ?_ _ | with_reducible refine Below.drew ?_ | ((with_reducible refine Below.alloc ?_ ?_ _); rotate_left; (· first | (simp; done) | omega | (simp; omega))) | exact Below.refl _ _ | exact B3 | refine Below.setCell ?_ (by first | (simp; done) | omega | (simp; omega)) _ | refine below_drewN ?_ _ | refine Below.drew ?_ | refine Below.alloc ?_ (by first | (simp; done) | omega | (simp; omega)) _)) (by first | (simp; done) | omega | (simp; omega)) (by go_simp) (by go_simp) (by go_simp) (by intro o; go_simp)
            case measure => simp [intOf]; omega
          · go_wp2_with fail
            refine (modeCheck_yes _ _ _ _ HN1.out).mono ?_
            rintro e4 w4 ⟨rfl, rfl⟩
            go_wp2_with fail
            go_roundw
            case rel => exact rel_mk (k + 1) 1 p on true (by omega) (by go_num) rfl (by have := HN2.out; simpa using this : Inv 1 p on true) (by repeat (first | with_reducible exact Below.refl _ _ | with_reducible exact B3 | ((with_reducible refine Below.setCell ?_ ?_ _); rotate_left; (· first | (simp; done) | omega | (simp; omega))) | with_reducible refine below_drewN ?_ _ | with_reducible refine Below.drew ?_ | ((with_reducible refine Below.alloc ?_ ?_ _); rotate_left; (· first | (simp; done) | omega | (simp; omega))) | exact Below.refl _ _ | exact B3 | refine Below.setCell ?_ (by first | (simp; done) | omega | (simp; omega)) _ | refine below_drewN ?_ _ | refine Below.drew ?_ | refine Below.alloc ?_ (by first | (simp; done) | omega | (simp; omega)) _)) (by first | (simp; done) | omega | (simp; omega)) (by go_simp) (by go_simp) (by go_simp) (by intro o; go_simp)
            case measure => simp [intOf]; omega
        · go_wp2_with fail
          refine (modeCheck_yes _ _ _ _ HN1.out).mono ?_
          rintro e4 w4 ⟨rfl, rfl⟩
          go_wp2_with fail
          go_roundw
          case rel => exact rel_mk (k + 1) 2 true on false (by omega) (by go_num) rfl (by have := HN2.out; simpa using this : Inv 2 true on false) (by repeat (first | with_reducible exact Below.refl _ _ | with_reducible exact B3 | ((with_reducible refine Below.setCell ?_ ?_ _); rotate_left; (· first | (simp; done) | omega | (simp; omega))) | with_reducible refine below_drewN ?_ _ | with_reducible refine Below.drew ?_ | ((with_reducible refine Below.alloc ?_ ?_ _); rotate_left; (· first | (simp; done) | omega | (simp; omega))) | exact Below.refl _ _ | exact B3 | refine Below.setCell ?_ (by first | (simp; done) | omega | (simp; omega)) _ | refine below_drewN ?_ _ | refine Below.drew ?_ | refine Below.alloc ?_ (by first | (simp; done) | omega | (simp; omega)) _)) (by first | (simp; done) | omega | (simp; omega)) (by go_simp) (by go_simp) (by go_simp) (by intro o; go_simp)
          case measure => simp [intOf]; omega
        · cases s
          · go_wp2_with fail
            refine (modeCheck_yes _ _ _ _ HN1.out).mono ?_
            rintro e4 w4 ⟨rfl, rfl⟩
            go_wp2_with fail
            go_roundw
            case rel => exact rel_mk (k + 1) 3 p true true (by omega) (by go_num) rfl (by have := HN2.out; simpa using this : Inv 3 p true true) (by repeat (first | with_reducible exact Below.refl _ _ | with_reducible exact B3 | ((with_reducible refine Below.setCell ?_ ?_ _); rotate_left; (· first | (simp; done) | omega | (simp; omega))) | with_reducible refine below_drewN ?_ _ | with_reducible refine Below.drew ?_ | ((with_reducible refine Below.alloc ?_ ?_ _); rotate_left; (· first | (simp; done) | omega | (simp; omega))) | exact Below.refl _ _ | exact B3 | refine Below.setCell ?_ (by first | (simp; done) | omega | (simp; omega)) _ | refine below_drewN ?_ _ | refine Below.drew ?_ | refine Below.alloc ?_ (by first | (simp; done) | omega | (simp; omega)) _)) (by first | (simp; done) | omega | (simp; omega)) (by go_simp) (by go_simp) (by go_simp) (by intro o; go_simp)
            case measure => simp [intOf]; omega
          · go_wp2_with fail
            refine (modeCheck_yes _ _ _ _ HN1.out).mono ?_
            rintro e4 w4 ⟨rfl, rfl⟩
            go_wp2_with fail
            go_roundw
            case rel => exact rel_mk (k + 1) 3 p true true (by omega) (by go_num) rfl (by have := HN2.out; simpa using this : Inv 3 p true true) (by repeat (first | with_reducible exact Below.refl _ _ | with_reducible exact B3 | ((with_reducible refine Below.setCell ?_ ?_ _); rotate_left; (· first | (simp; done) | omega | (simp; omega))) | with_reducible refine below_drewN ?_ _ | with_reducible refine Below.drew ?_ | ((with_reducible refine Below.alloc ?_ ?_ _); rotate_left; (· first | (simp; done) | omega | (simp; omega))) | exact Below.refl _ _ | exact B3 | refine Below.setCell ?_ (by first | (simp; done) | omega | (simp; omega)) _ | refine below_drewN ?_ _ | refine Below.drew ?_ | refine Below.alloc ?_ (by first | (simp; done) | omega | (simp; omega)) _)) (by first | (simp; done) | omega | (simp; omega)) (by go_simp) (by go_simp) (by go_simp) (by intro o; go_simp)
            case measure => simp [intOf]; omega
      · obtain ⟨⟨⟨m', p', g'⟩, e⟩, hy⟩ : ∃ y, testedI m p g (r == 6) = y := ⟨_, rfl⟩
        have HY := Lib.hid hy
        have hnext := tested_next m p g s (r == 6) hinv.out m' e p' g' hy
        have HNX := Lib.hid hnext
        clear hy hnext
        have d1 : decide (r < 4) = false := decide_eq_false (by omega)
        have d2 : decide (r < 6) = false := decide_eq_false (by omega)
        generalize hg6 : (r == 6) = on at *
        go_wp2_with fail
        refine (tested_any _ _ _ _ m' e p' g' _ HV.out HY.out).mono ?_
        rintro e3 w3 ⟨rfl, hb3⟩
        have zb3 := hb3.size
        simp at zb3
        have BA : Below wr.heap.size wr w3 := by repeat (first | with_reducible exact Below.refl _ _ | ((with_reducible refine Below.setCell ?_ ?_ _); rotate_left; (· first | (simp; done) | omega | (simp; omega))) | with_reducible refine below_drewN ?_ _ | with_reducible refine Below.drew ?_ | ((with_reducible refine Below.trans ?_ (Below.mono hb3 ?_)); rotate_left; (· first | (simp; done) | omega | (simp; omega))) | ((with_reducible refine Below.alloc ?_ ?_ _); rotate_left; (· first | (simp; done) | omega | (simp; omega))) | exact Below.refl _ _ | refine Below.setCell ?_ (by first | (simp; done) | omega | (simp; omega)) _ | refine below_drewN ?_ _ | refine Below.drew ?_ | refine Below.trans ?_ (Below.mono hb3 (by first | (simp; done) | omega | (simp; omega))) | refine Below.alloc ?_ (by first | (simp; done) | omega | (simp; omega)) _)
        have B3 : Below w.heap.size w w3 := hB.trans (BA.mono (by have := hB.size; omega))
        have y0 : w3.cell? ⟨wr.heap.size, 0, none⟩ = some (.int .i64 0) := cell_later hb3 (by go_simp)
        have y1 : w3.cell? ⟨wr.heap.size, 1, none⟩ = some (.bool false) := cell_later hb3 (by go_simp)
        have y2 : w3.cell? ⟨wr.heap.size, 2, none⟩ = some (.bool false) := cell_later hb3 (by go_simp)
        have yf : ∀ o, w3.frozen? ⟨wr.heap.size, o, none⟩ = false := fun o => by rw [hb3.frozen (by simp)]; go_simp
        replace hf : ∀ o, w3.frozen? ⟨w1.heap.size + 1, o, none⟩ = false := fun o => by rw [BA.frozen (by simp; omega)]; exact hf o
        replace c0 := cell_later BA c0
        replace c1 := cell_later BA c1
        replace c2 := cell_later BA c2
        have s1 : w1.heap.size + 1 < w3.heap.size := by omega
        have s2 : wr.heap.size < w3.heap.size := by omega
        have s3 : w.heap.size ≤ wr.heap.size := hB.size
        have s4 : w.heap.size ≤ w1.heap.size := zb1
        clear hb3 BA hB hx hbl hb2
        rcases HNX.out with he | ⟨rfl, hn⟩
        · have HE : (e == 0) = false := by simpa using he
          have HE2 : (e != 0) = true := by simpa using he
          clear he
          cases s
          · go_wp2
            go_roundw
            case rel => exact rel_mk (k + 1) m p g false (by omega) (by go_num) rfl hinv (by repeat (first | with_reducible exact Below.refl _ _ | with_reducible exact B3 | ((with_reducible refine Below.setCell ?_ ?_ _); rotate_left; (· first | (simp; done) | omega | (simp; omega))) | with_reducible refine below_drewN ?_ _ | with_reducible refine Below.drew ?_ | ((with_reducible refine Below.alloc ?_ ?_ _); rotate_left; (· first | (simp; done) | omega | (simp; omega))) | exact Below.refl _ _ | exact B3 | refine Below.setCell ?_ (by first | (simp; done) | omega | (simp; omega)) _ | refine below_drewN ?_ _ | refine Below.drew ?_ | refine Below.alloc ?_ (by first | (simp; done) | omega | (simp; omega)) _)) (by first | (simp; done) | omega | (simp; omega)) (by go_simp) (by go_simp) (by go_simp) (by intro o; go_simp)
            case measure => simp [intOf]; omega
          · go_wp2
            go_roundw
            case rel => exact rel_mk (k + 1) m p g true (by omega) (by go_num) rfl hinv (by repeat (first | with_reducible exact Below.refl _ _ | with_reducible exact B3 | ((with_reducible refine Below.setCell ?_ ?_ _); rotate_left; (· first | (simp; done) | omega | (simp; omega))) | with_reducible refine below_drewN ?_ _ | with_reducible refine Below.drew ?_ | ((with_reducible refine Below.alloc ?_ ?_ _); rotate_left; (· first | (simp; done) | omega | (simp; omega))) | exact Below.refl _ _ | exact B3 | refine Below.setCell ?_ (by first | (simp; done) | omega | (simp; omega)) _ | refine below_drewN ?_ _ | refine Below.drew ?_ | refine Below.alloc ?_ (by first | (simp; done) | omega | (simp; omega)) _)) (by first | (simp; done) | omega | (simp; omega)) (by go_simp) (by go_simp) (by go_simp) (by intro o; go_simp)
            case measure => simp [intOf]; omega
        · obtain ⟨hn1, hn2, hn3⟩ := hn
          have HN1 := Lib.hid hn1; have HN2 := Lib.hid hn2
          clear hn1 hn2
          rcases hn3 with rfl | ⟨rfl, rfl, -⟩ | ⟨rfl, rfl⟩
          · cases s
            · go_wp2_with fail
              refine (modeCheck_yes _ _ _ _ HN1.out).mono ?_
              rintro e4 w4 ⟨rfl, rfl⟩
              go_wp2_with fail
              go_roundw
              case rel => exact rel_mk (k + 1) 1 p' g' false (by omega) (by go_num) rfl (by have := HN2.out; simpa using this : Inv 1 p' g' false) (by repeat (first | with_reducible exact Below.refl _ _ | with_reducible exact B3 | ((with_reducible refine Below.setCell ?_ ?_ _); rotate_left; (· first | (simp; done) | omega | (simp; omega))) | with_reducible refine below_drewN ?_ _ | with_reducible refine Below.drew ?_ | ((with_reducible refine Below.alloc ?_ ?_ _); rotate_left; (· first | (simp; done) | omega | (simp; omega))) | exact Below.refl _ _ | exact B3 | refine Below.setCell ?_ (by first | (simp; done) | omega | (simp; omega)) _ | refine below_drewN ?_ _ | refine Below.drew ?_ | refine Below.alloc ?_ (by first | (simp; done) | omega | (simp; omega)) _)) (by first | (simp; done) | omega | (simp; omega)) (by go_simp) (by go_simp) (by go_simp) (by intro o; go_simp)
              case measure => simp [intOf]; omega
            · go_wp2_with fail
              refine (modeCheck_yes _ _ _ _ HN1.out).mono ?_
              rintro e4 w4 ⟨rfl, rfl⟩
              go_wp2_with fail
              go_roundw
              case rel => exact rel_mk (k + 1) 1 p' g' false (by omega) (by go_num) rfl (by have := HN2.out; simpa using this : Inv 1 p' g' false) (by repeat (first | with_reducible exact Below.refl _ _ | with_reducible exact B3 | ((with_reducible refine Below.setCell ?_ ?_ _); rotate_left; (· first | (simp; done) | omega | (simp; omega))) | with_reducible refine below_drewN ?_ _ | with_reducible refine Below.drew ?_ | ((with_reducible refine Below.alloc ?_ ?_ _); rotate_left; (· first | (simp; done) | omega | (simp; omega))) | exact Below.refl _ _ | exact B3 | refine Below.setCell ?_ (by first | (simp; done) | omega | (simp; omega)) _ | refine below_drewN ?_ _ | refine Below.drew ?_ | refine Below.alloc ?_ (by first | (simp; done) | omega | (simp; omega)) _)) (by first | (simp; done) | omega | (simp; omega)) (by go_simp) (by go_simp) (by go_simp) (by intro o; go_simp)
              case measure => simp [intOf]; omega
          · cases s
            · go_wp2_with fail
              refine (modeCheck_yes _ _ _ _ HN1.out).mono ?_
              rintro e4 w4 ⟨rfl, rfl⟩
              go_wp2_with fail
              go_roundw
              case rel => exact rel_mk (k + 1) 2 true g' false (by omega) (by go_num) rfl (by have := HN2.out; simpa using this : Inv 2 true g' false) (by repeat (first | with_reducible exact Below.refl _ _ | with_reducible exact B3 | ((with_reducible refine Below.setCell ?_ ?_ _); rotate_left; (· first | (simp; done) | omega | (simp; omega))) | with_reducible refine below_drewN ?_ _ | with_reducible refine Below.drew ?_ | ((with_reducible refine Below.alloc ?_ ?_ _); rotate_left; (· first | (simp; done) | omega | (simp; omega))) | exact Below.refl _ _ | exact B3 | refine Below.setCell ?_ (by first | (simp; done) | omega | (simp; omega)) _ | refine below_drewN ?_ _ | refine Below.drew ?_ | refine Below.alloc ?_ (by first | (simp; done) | omega | (simp; omega)) _)) (by first | (simp; done) | omega | (simp; omega)) (by go_simp) (by go_simp) (by go_simp) (by intro o; go_simp)
              case measure => simp [intOf]; omega
            · go_wp2_with fail
              refine (modeCheck_yes _ _ _ _ HN1.out).mono ?_
              rintro e4 w4 ⟨rfl, rfl⟩
              go_wp2_with fail
              go_roundw
              case rel => exact rel_mk (k + 1) 2 true g' false (by omega) (by go_num) rfl (by have := HN2.out; simpa using this : Inv 2 true g' false) (by repeat (first | with_reducible exact Below.refl _ _ | with_reducible exact B3 | ((with_reducible refine Below.setCell ?_ ?_ _); rotate_left; (· first | (simp; done) | omega | (simp; omega))) | with_reducible refine below_drewN ?_ _ | with_reducible refine Below.drew ?_ | ((with_reducible refine Below.alloc ?_ ?_ _); rotate_left; (· first | (simp; done) | omega | (simp; omega))) | exact Below.refl _ _ | exact B3 | refine Below.setCell ?_ (by first | (simp; done) | omega | (simp; omega)) _ | refine below_drewN ?_ _ | refine Below.drew ?_ | refine Below.alloc ?_ (by first | (simp; done) | omega | (simp; omega)) _)) (by first | (simp; done) | omega | (simp; omega)) (by go_simp) (by go_simp) (by go_simp) (by intro o; go_simp)
              case measure => simp [intOf]; omega
          · cases s
            · go_wp2_with fail
              refine (modeCheck_yes _ _ _ _ HN1.out).mono ?_
              rintro e4 w4 ⟨rfl, rfl⟩
              go_wp2_with fail
              go_roundw
              case rel => exact rel_mk (k + 1) 3 p' true true (by omega) (by go_num) rfl (by have := HN2.out; simpa using this : Inv 3 p' true true) (by repeat (first | with_reducible exact Below.refl _ _ | with_reducible exact B3 | ((with_reducible refine Below.setCell ?_ ?_ _); rotate_left; (· first | (simp; done) | omega | (simp; omega))) | with_reducible refine below_drewN ?_ _ | with_reducible refine Below.drew ?_ | ((with_reducible refine Below.alloc ?_ ?_ _); rotate_left; (· first | (simp; done) | omega | (simp; omega))) | exact Below.refl _ _ | exact B3 | refine Below.setCell ?_ (by first | (simp; done) | omega | (simp; omega)) _ | refine below_drewN ?_ _ | refine Below.drew ?_ | refine Below.alloc ?_ (by first | (simp; done) | omega | (simp; omega)) _)) (by first | (simp; done) | omega | (simp; omega)) (by go_simp) (by go_simp) (by go_simp) (by intro o; go_simp)
              case measure => simp [intOf]; omega
            · go_wp2_with fail
              refine (modeCheck_yes _ _ _ _ HN1.out).mono ?_
              rintro e4 w4 ⟨rfl, rfl⟩
              go_wp2_with fail
              go_roundw
              case rel => exact rel_mk (k + 1) 3 p' true true (by omega) (by go_num) rfl (by have := HN2.out; simpa using this : Inv 3 p' true true) (by repeat (first | with_reducible exact Below.refl _ _ | with_reducible exact B3 | ((with_reducible refine Below.setCell ?_ ?_ _); rotate_left; (· first | (simp; done) | omega | (simp; omega))) | with_reducible refine below_drewN ?_ _ | with_reducible refine Below.drew ?_ | ((with_reducible refine Below.alloc ?_ ?_ _); rotate_left; (· first | (simp; done) | omega | (simp; omega))) | exact Below.refl _ _ | exact B3 | refine Below.setCell ?_ (by first | (simp; done) | omega | (simp; omega)) _ | refine below_drewN ?_ _ | refine Below.drew ?_ | refine Below.alloc ?_ (by first | (simp; done) | omega | (simp; omega)) _)) (by first | (simp; done) | omega | (simp; omega)) (by go_simp) (by go_simp) (by go_simp) (by intro o; go_simp)
              case measure => simp [intOf]; omega

    · obtain rfl : k = len := by omega
      go_wp2
      go_ret
      exact ⟨rfl, hB⟩
set_option maxRecDepth 100000 in
theorem lifted (os : Os) (started : os.Started) (H : Type) (enc : TypeId × Value → H) :
    ReturnsInHanded {} Try.checked os 5 .any (Rows.modeSafeSpec.pre6 enc Try.prog Try.f5 Rows.modeSafeRow.domain false) (Rows.modeSafeSpec.post enc Try.prog Try.f5 false true false false) := by
  refine returnsInHanded_of_change_sized (C := Try.checked) own started (by kernel_rfl) Try.func5
    (ChangeSpec.witness6 (enc := enc) (C := Try.checked) false ⟨#[], #[.slice none 0 0], []⟩ 8 (by kernel_rfl) (by kernel_rfl) (by kernel_rfl) (by kernel_rfl)) ?_
  intro W base args ds gs before hval0 hW hcnd hsz0 _
  have hsz : (DataW.weightsEach Try.prog (Try.f5.params.toList ++ Rows.modeSafeSpec.plain.varTypes Try.prog) (ds ++ gs)).all (· ≤ reachBytes) = true := hsz0
  have hval : ∀ (j : Nat) t v, Try.f5.params[j]? = some t → args[j]? = some v → Value.okWide Try.prog W .any base t v := hval0
  have hW' := hW
  obtain ⟨p, q, hA0, hV, rfl, hfz, hnd⟩ := hW
  have hA : DataW.TrodAll enc Try.prog W 0 (fun _ => true) true Try.f5.params.toList args.toList ds p := hA0
  rw [Try.params5] at hA hval hsz
  obtain ⟨v0, vs0, d0, ds0, p0, q0, hargs, rfl, rfl, h0, r0⟩ := trodAll_cons hA
  obtain ⟨rfl, rfl, rfl⟩ := trodAll_nil r0
  obtain rfl : args = #[v0] := by cases args; simp_all
  obtain ⟨rfl, rfl⟩ := trodVars_none hV
  have k0 := h0
  have lt0 : ∀ x ∈ p0, x.block < W.heap.size := by obtain ⟨m, hm⟩ := k0; exact DataW.trod_lt m _ _ _ hm
  obtain ⟨sa0, sl0, sc0, rfl⟩ := okWide_slice Try.underlying29 (hval 0 29 v0 rfl rfl)
  obtain ⟨a0, len0, cap0, z0, e0, w0⟩ := leaf_ints (Try.underlying29) (Try.underlying3) (by kernel_rfl) (by obtain ⟨fuel, hf⟩ := h0; exact ⟨fuel, _, by simpa [Value.cells] using hf⟩)
  simp only [Value.slice.injEq] at e0
  obtain ⟨rfl, rfl, rfl⟩ := e0
  have R0 := cap_le (B := 8) Try.underlying29 k0 (fun elems spare hd => by have := sized_slice hsz (j := 0) (t := 29) (e := 3) (elems := elems) (spare := spare) rfl (by rw [← hd]; rfl) Try.underlying29; exact this)
  clear hA0 hval0
  refine (law sa0 sl0 sc0 z0 W w0 R0).mono fun e W' ⟨he, bel⟩ => ?_
  subst he
  exact ⟨_, rfl, _, _, _, [], _, [], hW', trodAll_mk1 (shut_bool Try.underlying4 _), (trodAll_cons_mk (Below.trod laidOut (by kernel_rfl) (of_decide_eq_true (by kernel_rfl)) k0 bel lt0) trodAll_mk0), rfl, bel.frame _, fun h => by cases h⟩
theorem over : Rows.modeSafeRow.holds Try.pinned (OpenSpec.ofChange Rows.modeSafeSpec) :=
  OpenClaim.holds_of_wide 5 Try.f5 rfl rfl rfl rfl rfl rfl rfl ⟨rfl, rfl, rfl, rfl, rfl⟩ rfl rfl rfl rfl rfl (by kernel_rfl) Try.func5 (by kernel_rfl)
    (of_decide_eq_true (by kernel_rfl)) (by unfold Func.isWrapper; first | (rw [if_pos (by decide +kernel)]; kernel_rfl) | (rw [if_neg (by decide +kernel)]; exact ⟨rfl, rfl⟩))
    (fun os started H enc _ => lifted os started H enc)
theorem proved : Rows.ModeSafeSaid := over
#print axioms proved

end Go.Proofs.Ytfifckcjadbiiaa.modeSafe
