/- LaneFails: whatever happens to a lane, the law answers true and leaves memory as it was. -/
import Derived.Test.YtfifckcjadbiiaaLaneMore
import Derived.Test.YtfifckcjadbiiaaLaneNext
namespace Go.Proofs.Ytfifckcjadbiiaa.laneFails
open Go.ChangeShapes Go.WideShapes Go.ChangeAt Go.RowKit Go.Proofs.Ytfifckcjadbiiaa Go.Proofs.Ytfifckcjadbiiaa.Open
set_option linter.unusedVariables false
/-- what holds at each round's head -/
def Rel (w : World) (B len : Nat) (fv i : Value) (wr : World) : Prop := ∃ (k : Nat) (m : Int) (f : Bool) (r : Int), k ≤ len ∧ i = .int .i64 k ∧ fv = .bool f ∧ Hid (LaneOk m f r) ∧ Below w.heap.size w wr ∧ B < wr.heap.size ∧
      wr.cell? ⟨B, 0, none⟩ = some (.int .i64 m) ∧ wr.cell? ⟨B, 1, none⟩ = some (.bool f) ∧ wr.cell? ⟨B, 2, none⟩ = some (.int .i64 r) ∧ (∀ o, wr.frozen? ⟨B, o, none⟩ = false)
theorem rel_mk {w wr : World} {B len : Nat} {fv i : Value} (k : Nat) (m : Int) (f : Bool) (r : Int) (hk : k ≤ len) (hi : i = .int .i64 k) (hs : fv = .bool f) (hinv : Hid (LaneOk m f r)) (hB : Below w.heap.size w wr) (hz : B < wr.heap.size)
    (c0 : wr.cell? ⟨B, 0, none⟩ = some (.int .i64 m)) (c1 : wr.cell? ⟨B, 1, none⟩ = some (.bool f)) (c2 : wr.cell? ⟨B, 2, none⟩ = some (.int .i64 r)) (hf : ∀ o, wr.frozen? ⟨B, o, none⟩ = false) : Rel w B len fv i wr :=
  ⟨k, m, f, r, hk, hi, hs, hinv, hB, hz, c0, c1, c2, hf⟩
theorem fails_mode {m r : Int} (h : LaneOk m true r) : 2 ≤ m := by unfold LaneOk at h; simp at h; omega
set_option maxHeartbeats 8000000 in
set_option maxRecDepth 100000 in
theorem law (a : Option Addr) (len cap : Nat) (zs : List Int) (w : World) (hrow : IsRow .i64 w a len cap zs) (hr : len ≤ cap ∧ cap * 8 ≤ 140737488351232) :
    Calls Try.prog 4 #[.slice a len cap] w fun e w' => e = .returned (.bool true) ∧ Below w.heap.size w w' := by
  have HR := Lib.hid hrow
  have K0 : Hid (LaneOk 0 false 0) := (⟨by decide, by decide, by decide⟩ : LaneOk 0 false 0)
  clear hrow
  go_enter Try.func4, Try.ntmps4
  go_wp2_with fail
  refine (all_two _ _ (by go_simp) (by go_simp)).mono ?_
  rintro e1 w1 ⟨rfl, hb1⟩
  have zb1 := hb1.size
  have B1 : Below w.heap.size w w1 := by repeat (first | with_reducible exact Below.refl _ _ | ((with_reducible refine Below.setCell ?_ ?_ _); rotate_left; (· first | (simp; done) | omega | (simp; omega))) | with_reducible refine below_drewN ?_ _ | with_reducible refine Below.drew ?_ | ((with_reducible refine Below.trans ?_ (Below.mono hb1 ?_)); rotate_left; (· first | (simp; done) | omega | (simp; omega))) | ((with_reducible refine Below.alloc ?_ ?_ _); rotate_left; (· first | (simp; done) | omega | (simp; omega))) | exact Below.refl _ _ | refine Below.setCell ?_ (by first | (simp; done) | omega | (simp; omega)) _ | refine below_drewN ?_ _ | refine Below.drew ?_ | refine Below.trans ?_ (Below.mono hb1 (by first | (simp; done) | omega | (simp; omega))) | refine Below.alloc ?_ (by first | (simp; done) | omega | (simp; omega)) _)
  simp at zb1
  clear hb1
  have s1 : w.heap.size ≤ w1.heap.size := by omega
  go_wp2
  clear zb1
  go_loopw [7, 34] (fun fv i wr => Rel w (w1.heap.size + 1) len fv i wr) (fun _ i _ => len - (intOf i).toNat)
  case atStart =>
    refine rel_mk 0 0 false 0 (Nat.zero_le _) rfl rfl K0 (by repeat (first | with_reducible exact Below.refl _ _ | with_reducible exact B1 | ((with_reducible refine Below.setCell ?_ ?_ _); rotate_left; (· first | (simp; done) | omega | (simp; omega))) | with_reducible refine below_drewN ?_ _ | with_reducible refine Below.drew ?_ | ((with_reducible refine Below.alloc ?_ ?_ _); rotate_left; (· first | (simp; done) | omega | (simp; omega))) | exact Below.refl _ _ | exact B1 | refine Below.setCell ?_ (by first | (simp; done) | omega | (simp; omega)) _ | refine below_drewN ?_ _ | refine Below.drew ?_ | refine Below.alloc ?_ (by first | (simp; done) | omega | (simp; omega)) _)) (by simp) (by go_simp) (by go_simp) (by go_simp) ?_
    intro o; go_simp
  case round =>
    obtain ⟨k, m, f, r, hk, rfl, rfl, hinv, hB, hsz, c0, c1, c2, hf⟩ := hrel
    by_cases hlt : k < len
    · obtain ⟨b, off, rfl, -, -, -, hcell, hwf⟩ := HR.out.pos (by omega)
      have hx := cell_later hB (hcell k (by omega))
      have hv := bounds_i64 (hwf k)
      have hbl := World.block_lt_of_cell? _ _ (hcell k (by omega))
      simp at hbl
      have hb2 : b < wr.heap.size := by have := hB.size; omega
      clear hcell hwf B1
      generalize zs.getD k 0 = x at *
      by_cases hin : 1 ≤ x ∧ x ≤ 7
      · obtain ⟨⟨m', f', r'⟩, hy⟩ : ∃ y, nextI m f r x = y := ⟨_, rfl⟩
        have HY := Lib.hid hy
        have hx7 : x = 1 ∨ x = 2 ∨ x = 3 ∨ x = 4 ∨ x = 5 ∨ x = 6 ∨ x = 7 := by omega
        have hno := next_ok hinv.out hx7 hy
        have HL := Lib.hid hno.1
        have HF := Lib.hid hno.2
        have HX := Lib.hid hx7
        clear hy hno hx7 hin
        go_wp2_with fail
        refine (next_any _ _ _ x _ hinv.out HX.out m' f' r' HY.out).mono ?_
        rintro e3 w3 ⟨rfl, hb3⟩
        have zb3 := hb3.size
        try (simp at zb3)
        have BA : Below wr.heap.size wr w3 := by repeat (first | with_reducible exact Below.refl _ _ | ((with_reducible refine Below.setCell ?_ ?_ _); rotate_left; (· first | (simp; done) | omega | (simp; omega))) | with_reducible refine below_drewN ?_ _ | with_reducible refine Below.drew ?_ | ((with_reducible refine Below.trans ?_ (Below.mono hb3 ?_)); rotate_left; (· first | (simp; done) | omega | (simp; omega))) | ((with_reducible refine Below.alloc ?_ ?_ _); rotate_left; (· first | (simp; done) | omega | (simp; omega))) | exact Below.refl _ _ | refine Below.setCell ?_ (by first | (simp; done) | omega | (simp; omega)) _ | refine below_drewN ?_ _ | refine Below.drew ?_ | refine Below.trans ?_ (Below.mono hb3 (by first | (simp; done) | omega | (simp; omega))) | refine Below.alloc ?_ (by first | (simp; done) | omega | (simp; omega)) _)
        have B3 : Below w.heap.size w w3 := hB.trans (BA.mono (by have := hB.size; omega))
        replace hf : ∀ o, w3.frozen? ⟨w1.heap.size + 1, o, none⟩ = false := fun o => by rw [BA.frozen (by simp; omega)]; exact hf o
        replace c0 := cell_later BA c0
        replace c1 := cell_later BA c1
        replace c2 := cell_later BA c2
        have s2 : w1.heap.size + 1 < w3.heap.size := by omega
        have s2a : w1.heap.size + 1 < w3.heap.size + 1 := by omega
        have s2b : w1.heap.size + 1 < w3.heap.size + 1 + 1 := by omega
        have s3 : w.heap.size ≤ w1.heap.size + 1 := by omega
        clear hb3 BA hB hx hbl hb2
        clear HY
        rcases HX.out with rfl | rfl | rfl | rfl | rfl | rfl | rfl <;> cases f
        · obtain rfl : false = f' := by have := HF.out; simpa using this.symm
          clear HF
          go_wp2_with fail
          refine (laneCheck_yes _ _ _ _ HL.out).mono ?_
          rintro e4 w4 ⟨rfl, rfl⟩
          go_wp2
          go_roundw
          case rel => exact rel_mk (k + 1) m' false r' (by omega) (by go_num) rfl HL (by repeat (first | with_reducible exact Below.refl _ _ | with_reducible exact B3 | ((with_reducible refine Below.setCell ?_ ?_ _); rotate_left; (· first | (simp; done) | omega | (simp; omega))) | with_reducible refine below_drewN ?_ _ | with_reducible refine Below.drew ?_ | ((with_reducible refine Below.alloc ?_ ?_ _); rotate_left; (· first | (simp; done) | omega | (simp; omega))) | exact Below.refl _ _ | exact B3 | refine Below.setCell ?_ (by first | (simp; done) | omega | (simp; omega)) _ | refine below_drewN ?_ _ | refine Below.drew ?_ | refine Below.alloc ?_ (by first | (simp; done) | omega | (simp; omega)) _)) (by first | (simp; done) | omega | (simp; omega)) (by go_simp) (by go_simp) (by go_simp) (by intro o; go_simp)
          case measure => simp [intOf]; omega
        · obtain rfl : true = f' := by have := HF.out; simpa using this.symm
          clear HF
          have hm2 := fails_mode HL.out
          have dm : decide (m' < 2) = false := decide_eq_false (by omega)
          clear hm2
          go_wp2_with fail
          refine (laneCheck_yes _ _ _ _ HL.out).mono ?_
          rintro e4 w4 ⟨rfl, rfl⟩
          go_wp2
          go_roundw
          case rel => exact rel_mk (k + 1) m' true r' (by omega) (by go_num) rfl HL (by repeat (first | with_reducible exact Below.refl _ _ | with_reducible exact B3 | ((with_reducible refine Below.setCell ?_ ?_ _); rotate_left; (· first | (simp; done) | omega | (simp; omega))) | with_reducible refine below_drewN ?_ _ | with_reducible refine Below.drew ?_ | ((with_reducible refine Below.alloc ?_ ?_ _); rotate_left; (· first | (simp; done) | omega | (simp; omega))) | exact Below.refl _ _ | exact B3 | refine Below.setCell ?_ (by first | (simp; done) | omega | (simp; omega)) _ | refine below_drewN ?_ _ | refine Below.drew ?_ | refine Below.alloc ?_ (by first | (simp; done) | omega | (simp; omega)) _)) (by first | (simp; done) | omega | (simp; omega)) (by go_simp) (by go_simp) (by go_simp) (by intro o; go_simp)
          case measure => simp [intOf]; omega
        · obtain rfl : false = f' := by have := HF.out; simpa using this.symm
          clear HF
          go_wp2_with fail
          refine (laneCheck_yes _ _ _ _ HL.out).mono ?_
          rintro e4 w4 ⟨rfl, rfl⟩
          go_wp2
          go_roundw
          case rel => exact rel_mk (k + 1) m' false r' (by omega) (by go_num) rfl HL (by repeat (first | with_reducible exact Below.refl _ _ | with_reducible exact B3 | ((with_reducible refine Below.setCell ?_ ?_ _); rotate_left; (· first | (simp; done) | omega | (simp; omega))) | with_reducible refine below_drewN ?_ _ | with_reducible refine Below.drew ?_ | ((with_reducible refine Below.alloc ?_ ?_ _); rotate_left; (· first | (simp; done) | omega | (simp; omega))) | exact Below.refl _ _ | exact B3 | refine Below.setCell ?_ (by first | (simp; done) | omega | (simp; omega)) _ | refine below_drewN ?_ _ | refine Below.drew ?_ | refine Below.alloc ?_ (by first | (simp; done) | omega | (simp; omega)) _)) (by first | (simp; done) | omega | (simp; omega)) (by go_simp) (by go_simp) (by go_simp) (by intro o; go_simp)
          case measure => simp [intOf]; omega
        · obtain rfl : true = f' := by have := HF.out; simpa using this.symm
          clear HF
          have hm2 := fails_mode HL.out
          have dm : decide (m' < 2) = false := decide_eq_false (by omega)
          clear hm2
          go_wp2_with fail
          refine (laneCheck_yes _ _ _ _ HL.out).mono ?_
          rintro e4 w4 ⟨rfl, rfl⟩
          go_wp2
          go_roundw
          case rel => exact rel_mk (k + 1) m' true r' (by omega) (by go_num) rfl HL (by repeat (first | with_reducible exact Below.refl _ _ | with_reducible exact B3 | ((with_reducible refine Below.setCell ?_ ?_ _); rotate_left; (· first | (simp; done) | omega | (simp; omega))) | with_reducible refine below_drewN ?_ _ | with_reducible refine Below.drew ?_ | ((with_reducible refine Below.alloc ?_ ?_ _); rotate_left; (· first | (simp; done) | omega | (simp; omega))) | exact Below.refl _ _ | exact B3 | refine Below.setCell ?_ (by first | (simp; done) | omega | (simp; omega)) _ | refine below_drewN ?_ _ | refine Below.drew ?_ | refine Below.alloc ?_ (by first | (simp; done) | omega | (simp; omega)) _)) (by first | (simp; done) | omega | (simp; omega)) (by go_simp) (by go_simp) (by go_simp) (by intro o; go_simp)
          case measure => simp [intOf]; omega
        · obtain rfl : true = f' := by have := HF.out; simpa using this.symm
          clear HF
          have hm2 := fails_mode HL.out
          have dm : decide (m' < 2) = false := decide_eq_false (by omega)
          clear hm2
          go_wp2_with fail
          refine (laneCheck_yes _ _ _ _ HL.out).mono ?_
          rintro e4 w4 ⟨rfl, rfl⟩
          go_wp2
          go_roundw
          case rel => exact rel_mk (k + 1) m' true r' (by omega) (by go_num) rfl HL (by repeat (first | with_reducible exact Below.refl _ _ | with_reducible exact B3 | ((with_reducible refine Below.setCell ?_ ?_ _); rotate_left; (· first | (simp; done) | omega | (simp; omega))) | with_reducible refine below_drewN ?_ _ | with_reducible refine Below.drew ?_ | ((with_reducible refine Below.alloc ?_ ?_ _); rotate_left; (· first | (simp; done) | omega | (simp; omega))) | exact Below.refl _ _ | exact B3 | refine Below.setCell ?_ (by first | (simp; done) | omega | (simp; omega)) _ | refine below_drewN ?_ _ | refine Below.drew ?_ | refine Below.alloc ?_ (by first | (simp; done) | omega | (simp; omega)) _)) (by first | (simp; done) | omega | (simp; omega)) (by go_simp) (by go_simp) (by go_simp) (by intro o; go_simp)
          case measure => simp [intOf]; omega
        · obtain rfl : true = f' := by have := HF.out; simpa using this.symm
          clear HF
          have hm2 := fails_mode HL.out
          have dm : decide (m' < 2) = false := decide_eq_false (by omega)
          clear hm2
          go_wp2_with fail
          refine (laneCheck_yes _ _ _ _ HL.out).mono ?_
          rintro e4 w4 ⟨rfl, rfl⟩
          go_wp2
          go_roundw
          case rel => exact rel_mk (k + 1) m' true r' (by omega) (by go_num) rfl HL (by repeat (first | with_reducible exact Below.refl _ _ | with_reducible exact B3 | ((with_reducible refine Below.setCell ?_ ?_ _); rotate_left; (· first | (simp; done) | omega | (simp; omega))) | with_reducible refine below_drewN ?_ _ | with_reducible refine Below.drew ?_ | ((with_reducible refine Below.alloc ?_ ?_ _); rotate_left; (· first | (simp; done) | omega | (simp; omega))) | exact Below.refl _ _ | exact B3 | refine Below.setCell ?_ (by first | (simp; done) | omega | (simp; omega)) _ | refine below_drewN ?_ _ | refine Below.drew ?_ | refine Below.alloc ?_ (by first | (simp; done) | omega | (simp; omega)) _)) (by first | (simp; done) | omega | (simp; omega)) (by go_simp) (by go_simp) (by go_simp) (by intro o; go_simp)
          case measure => simp [intOf]; omega
        · obtain rfl : false = f' := by have := HF.out; simpa using this.symm
          clear HF
          go_wp2_with fail
          refine (laneCheck_yes _ _ _ _ HL.out).mono ?_
          rintro e4 w4 ⟨rfl, rfl⟩
          go_wp2
          go_roundw
          case rel => exact rel_mk (k + 1) m' false r' (by omega) (by go_num) rfl HL (by repeat (first | with_reducible exact Below.refl _ _ | with_reducible exact B3 | ((with_reducible refine Below.setCell ?_ ?_ _); rotate_left; (· first | (simp; done) | omega | (simp; omega))) | with_reducible refine below_drewN ?_ _ | with_reducible refine Below.drew ?_ | ((with_reducible refine Below.alloc ?_ ?_ _); rotate_left; (· first | (simp; done) | omega | (simp; omega))) | exact Below.refl _ _ | exact B3 | refine Below.setCell ?_ (by first | (simp; done) | omega | (simp; omega)) _ | refine below_drewN ?_ _ | refine Below.drew ?_ | refine Below.alloc ?_ (by first | (simp; done) | omega | (simp; omega)) _)) (by first | (simp; done) | omega | (simp; omega)) (by go_simp) (by go_simp) (by go_simp) (by intro o; go_simp)
          case measure => simp [intOf]; omega
        · obtain rfl : true = f' := by have := HF.out; simpa using this.symm
          clear HF
          have hm2 := fails_mode HL.out
          have dm : decide (m' < 2) = false := decide_eq_false (by omega)
          clear hm2
          go_wp2_with fail
          refine (laneCheck_yes _ _ _ _ HL.out).mono ?_
          rintro e4 w4 ⟨rfl, rfl⟩
          go_wp2
          go_roundw
          case rel => exact rel_mk (k + 1) m' true r' (by omega) (by go_num) rfl HL (by repeat (first | with_reducible exact Below.refl _ _ | with_reducible exact B3 | ((with_reducible refine Below.setCell ?_ ?_ _); rotate_left; (· first | (simp; done) | omega | (simp; omega))) | with_reducible refine below_drewN ?_ _ | with_reducible refine Below.drew ?_ | ((with_reducible refine Below.alloc ?_ ?_ _); rotate_left; (· first | (simp; done) | omega | (simp; omega))) | exact Below.refl _ _ | exact B3 | refine Below.setCell ?_ (by first | (simp; done) | omega | (simp; omega)) _ | refine below_drewN ?_ _ | refine Below.drew ?_ | refine Below.alloc ?_ (by first | (simp; done) | omega | (simp; omega)) _)) (by first | (simp; done) | omega | (simp; omega)) (by go_simp) (by go_simp) (by go_simp) (by intro o; go_simp)
          case measure => simp [intOf]; omega
        · obtain rfl : false = f' := by have := HF.out; simpa using this.symm
          clear HF
          go_wp2_with fail
          refine (laneCheck_yes _ _ _ _ HL.out).mono ?_
          rintro e4 w4 ⟨rfl, rfl⟩
          go_wp2
          go_roundw
          case rel => exact rel_mk (k + 1) m' false r' (by omega) (by go_num) rfl HL (by repeat (first | with_reducible exact Below.refl _ _ | with_reducible exact B3 | ((with_reducible refine Below.setCell ?_ ?_ _); rotate_left; (· first | (simp; done) | omega | (simp; omega))) | with_reducible refine below_drewN ?_ _ | with_reducible refine Below.drew ?_ | ((with_reducible refine Below.alloc ?_ ?_ _); rotate_left; (· first | (simp; done) | omega | (simp; omega))) | exact Below.refl _ _ | exact B3 | refine Below.setCell ?_ (by first | (simp; done) | omega | (simp; omega)) _ | refine below_drewN ?_ _ | refine Below.drew ?_ | refine Below.alloc ?_ (by first | (simp; done) | omega | (simp; omega)) _)) (by first | (simp; done) | omega | (simp; omega)) (by go_simp) (by go_simp) (by go_simp) (by intro o; go_simp)
          case measure => simp [intOf]; omega
        · obtain rfl : true = f' := by have := HF.out; simpa using this.symm
          clear HF
          have hm2 := fails_mode HL.out
          have dm : decide (m' < 2) = false := decide_eq_false (by omega)
          clear hm2
          go_wp2_with fail
          refine (laneCheck_yes _ _ _ _ HL.out).mono ?_
          rintro e4 w4 ⟨rfl, rfl⟩
          go_wp2
          go_roundw
          case rel => exact rel_mk (k + 1) m' true r' (by omega) (by go_num) rfl HL (by repeat (first | with_reducible exact Below.refl _ _ | with_reducible exact B3 | ((with_reducible refine Below.setCell ?_ ?_ _); rotate_left; (· first | (simp; done) | omega | (simp; omega))) | with_reducible refine below_drewN ?_ _ | with_reducible refine Below.drew ?_ | ((with_reducible refine Below.alloc ?_ ?_ _); rotate_left; (· first | (simp; done) | omega | (simp; omega))) | exact Below.refl _ _ | exact B3 | refine Below.setCell ?_ (by first | (simp; done) | omega | (simp; omega)) _ | refine below_drewN ?_ _ | refine Below.drew ?_ | refine Below.alloc ?_ (by first | (simp; done) | omega | (simp; omega)) _)) (by first | (simp; done) | omega | (simp; omega)) (by go_simp) (by go_simp) (by go_simp) (by intro o; go_simp)
          case measure => simp [intOf]; omega
        · obtain rfl : false = f' := by have := HF.out; simpa using this.symm
          clear HF
          go_wp2_with fail
          refine (laneCheck_yes _ _ _ _ HL.out).mono ?_
          rintro e4 w4 ⟨rfl, rfl⟩
          go_wp2
          go_roundw
          case rel => exact rel_mk (k + 1) m' false r' (by omega) (by go_num) rfl HL (by repeat (first | with_reducible exact Below.refl _ _ | with_reducible exact B3 | ((with_reducible refine Below.setCell ?_ ?_ _); rotate_left; (· first | (simp; done) | omega | (simp; omega))) | with_reducible refine below_drewN ?_ _ | with_reducible refine Below.drew ?_ | ((with_reducible refine Below.alloc ?_ ?_ _); rotate_left; (· first | (simp; done) | omega | (simp; omega))) | exact Below.refl _ _ | exact B3 | refine Below.setCell ?_ (by first | (simp; done) | omega | (simp; omega)) _ | refine below_drewN ?_ _ | refine Below.drew ?_ | refine Below.alloc ?_ (by first | (simp; done) | omega | (simp; omega)) _)) (by first | (simp; done) | omega | (simp; omega)) (by go_simp) (by go_simp) (by go_simp) (by intro o; go_simp)
          case measure => simp [intOf]; omega
        · obtain rfl : true = f' := by have := HF.out; simpa using this.symm
          clear HF
          have hm2 := fails_mode HL.out
          have dm : decide (m' < 2) = false := decide_eq_false (by omega)
          clear hm2
          go_wp2_with fail
          refine (laneCheck_yes _ _ _ _ HL.out).mono ?_
          rintro e4 w4 ⟨rfl, rfl⟩
          go_wp2
          go_roundw
          case rel => exact rel_mk (k + 1) m' true r' (by omega) (by go_num) rfl HL (by repeat (first | with_reducible exact Below.refl _ _ | with_reducible exact B3 | ((with_reducible refine Below.setCell ?_ ?_ _); rotate_left; (· first | (simp; done) | omega | (simp; omega))) | with_reducible refine below_drewN ?_ _ | with_reducible refine Below.drew ?_ | ((with_reducible refine Below.alloc ?_ ?_ _); rotate_left; (· first | (simp; done) | omega | (simp; omega))) | exact Below.refl _ _ | exact B3 | refine Below.setCell ?_ (by first | (simp; done) | omega | (simp; omega)) _ | refine below_drewN ?_ _ | refine Below.drew ?_ | refine Below.alloc ?_ (by first | (simp; done) | omega | (simp; omega)) _)) (by first | (simp; done) | omega | (simp; omega)) (by go_simp) (by go_simp) (by go_simp) (by intro o; go_simp)
          case measure => simp [intOf]; omega
        · obtain rfl : false = f' := by have := HF.out; simpa using this.symm
          clear HF
          go_wp2_with fail
          refine (laneCheck_yes _ _ _ _ HL.out).mono ?_
          rintro e4 w4 ⟨rfl, rfl⟩
          go_wp2
          go_roundw
          case rel => exact rel_mk (k + 1) m' false r' (by omega) (by go_num) rfl HL (by repeat (first | with_reducible exact Below.refl _ _ | with_reducible exact B3 | ((with_reducible refine Below.setCell ?_ ?_ _); rotate_left; (· first | (simp; done) | omega | (simp; omega))) | with_reducible refine below_drewN ?_ _ | with_reducible refine Below.drew ?_ | ((with_reducible refine Below.alloc ?_ ?_ _); rotate_left; (· first | (simp; done) | omega | (simp; omega))) | exact Below.refl _ _ | exact B3 | refine Below.setCell ?_ (by first | (simp; done) | omega | (simp; omega)) _ | refine below_drewN ?_ _ | refine Below.drew ?_ | refine Below.alloc ?_ (by first | (simp; done) | omega | (simp; omega)) _)) (by first | (simp; done) | omega | (simp; omega)) (by go_simp) (by go_simp) (by go_simp) (by intro o; go_simp)
          case measure => simp [intOf]; omega
        · obtain rfl : false = f' := by have := HF.out; simpa using this.symm
          clear HF
          go_wp2_with fail
          refine (laneCheck_yes _ _ _ _ HL.out).mono ?_
          rintro e4 w4 ⟨rfl, rfl⟩
          go_wp2
          go_roundw
          case rel => exact rel_mk (k + 1) m' false r' (by omega) (by go_num) rfl HL (by repeat (first | with_reducible exact Below.refl _ _ | with_reducible exact B3 | ((with_reducible refine Below.setCell ?_ ?_ _); rotate_left; (· first | (simp; done) | omega | (simp; omega))) | with_reducible refine below_drewN ?_ _ | with_reducible refine Below.drew ?_ | ((with_reducible refine Below.alloc ?_ ?_ _); rotate_left; (· first | (simp; done) | omega | (simp; omega))) | exact Below.refl _ _ | exact B3 | refine Below.setCell ?_ (by first | (simp; done) | omega | (simp; omega)) _ | refine below_drewN ?_ _ | refine Below.drew ?_ | refine Below.alloc ?_ (by first | (simp; done) | omega | (simp; omega)) _)) (by first | (simp; done) | omega | (simp; omega)) (by go_simp) (by go_simp) (by go_simp) (by intro o; go_simp)
          case measure => simp [intOf]; omega
      · go_wp2_with fail
        refine (next_bad _ _ _ x _ hinv.out (by omega)).mono ?_
        rintro e3 w3 ⟨rfl, hb3⟩
        have zb3 := hb3.size
        try (simp at zb3)
        have BA : Below wr.heap.size wr w3 := by repeat (first | with_reducible exact Below.refl _ _ | ((with_reducible refine Below.setCell ?_ ?_ _); rotate_left; (· first | (simp; done) | omega | (simp; omega))) | with_reducible refine below_drewN ?_ _ | with_reducible refine Below.drew ?_ | ((with_reducible refine Below.trans ?_ (Below.mono hb3 ?_)); rotate_left; (· first | (simp; done) | omega | (simp; omega))) | ((with_reducible refine Below.alloc ?_ ?_ _); rotate_left; (· first | (simp; done) | omega | (simp; omega))) | exact Below.refl _ _ | refine Below.setCell ?_ (by first | (simp; done) | omega | (simp; omega)) _ | refine below_drewN ?_ _ | refine Below.drew ?_ | refine Below.trans ?_ (Below.mono hb3 (by first | (simp; done) | omega | (simp; omega))) | refine Below.alloc ?_ (by first | (simp; done) | omega | (simp; omega)) _)
        have B3 : Below w.heap.size w w3 := hB.trans (BA.mono (by have := hB.size; omega))
        replace hf : ∀ o, w3.frozen? ⟨w1.heap.size + 1, o, none⟩ = false := fun o => by rw [BA.frozen (by simp; omega)]; exact hf o
        replace c0 := cell_later BA c0
        replace c1 := cell_later BA c1
        replace c2 := cell_later BA c2
        have s2 : w1.heap.size + 1 < w3.heap.size := by omega
        have s2a : w1.heap.size + 1 < w3.heap.size + 1 := by omega
        have s2b : w1.heap.size + 1 < w3.heap.size + 1 + 1 := by omega
        have s3 : w.heap.size ≤ w1.heap.size + 1 := by omega
        clear hb3 BA hB hx hbl hb2
        go_wp2
        go_roundw
        case rel => exact rel_mk (k + 1) m f r (by omega) (by go_num) rfl hinv (by repeat (first | with_reducible exact Below.refl _ _ | with_reducible exact B3 | ((with_reducible refine Below.setCell ?_ ?_ _); rotate_left; (· first | (simp; done) | omega | (simp; omega))) | with_reducible refine below_drewN ?_ _ | with_reducible refine Below.drew ?_ | ((with_reducible refine Below.alloc ?_ ?_ _); rotate_left; (· first | (simp; done) | omega | (simp; omega))) | exact Below.refl _ _ | exact B3 | refine Below.setCell ?_ (by first | (simp; done) | omega | (simp; omega)) _ | refine below_drewN ?_ _ | refine Below.drew ?_ | refine Below.alloc ?_ (by first | (simp; done) | omega | (simp; omega)) _)) (by first | (simp; done) | omega | (simp; omega)) (by go_simp) (by go_simp) (by go_simp) (by intro o; go_simp)
        case measure => simp [intOf]; omega
    · obtain rfl : k = len := by omega
      go_wp2
      go_ret
      exact ⟨rfl, hB⟩
set_option maxRecDepth 100000 in
theorem lifted (os : Os) (started : os.Started) (H : Type) (enc : TypeId × Value → H) :
    ReturnsInHanded {} Try.checked os 4 .any (Rows.laneFailsSpec.pre6 enc Try.prog Try.f4 Rows.laneFailsRow.domain false) (Rows.laneFailsSpec.post enc Try.prog Try.f4 false true false false) := by
  refine returnsInHanded_of_change_sized (C := Try.checked) own started (by kernel_rfl) Try.func4
    (ChangeSpec.witness6 (enc := enc) (C := Try.checked) false ⟨#[], #[.slice none 0 0], []⟩ 8 (by kernel_rfl) (by kernel_rfl) (by kernel_rfl) (by kernel_rfl)) ?_
  intro W base args ds gs before hval0 hW hcnd hsz0 _
  have hsz : (DataW.weightsEach Try.prog (Try.f4.params.toList ++ Rows.laneFailsSpec.plain.varTypes Try.prog) (ds ++ gs)).all (· ≤ reachBytes) = true := hsz0
  have hval : ∀ (j : Nat) t v, Try.f4.params[j]? = some t → args[j]? = some v → Value.okWide Try.prog W .any base t v := hval0
  have hW' := hW
  obtain ⟨p, q, hA0, hV, rfl, hfz, hnd⟩ := hW
  have hA : DataW.TrodAll enc Try.prog W 0 (fun _ => true) true Try.f4.params.toList args.toList ds p := hA0
  rw [Try.params4] at hA hval hsz
  obtain ⟨v0, vs0, d0, ds0, p0, q0, hargs, rfl, rfl, h0, r0⟩ := trodAll_cons hA
  obtain ⟨rfl, rfl, rfl⟩ := trodAll_nil r0
  obtain rfl : args = #[v0] := by cases args; simp_all
  obtain ⟨rfl, rfl⟩ := trodVars_none hV
  have k0 := h0
  have lt0 : ∀ x ∈ p0, x.block < W.heap.size := by obtain ⟨m, hm⟩ := k0; exact DataW.trod_lt m _ _ _ hm
  obtain ⟨sa0, sl0, sc0, rfl⟩ := okWide_slice Try.underlying29 (hval 0 29 v0 rfl rfl)
  obtain ⟨a0, len0, cap0, z0, e0, w0⟩ := leaf_ints (Try.underlying29) (Try.underlying3) (by kernel_rfl) (by obtain ⟨fuel, hf⟩ := h0; exact ⟨fuel, _, by simpa [Value.cells] using hf⟩)
  simp only [Value.slice.injEq] at e0
  obtain ⟨rfl, rfl, rfl⟩ := e0
  have R0 := cap_le (B := 8) Try.underlying29 k0 (fun elems spare hd => by have := sized_slice hsz (j := 0) (t := 29) (e := 3) (elems := elems) (spare := spare) rfl (by rw [← hd]; rfl) Try.underlying29; exact this)
  clear hA0 hval0
  refine (law sa0 sl0 sc0 z0 W w0 R0).mono fun e W' ⟨he, bel⟩ => ?_
  subst he
  exact ⟨_, rfl, _, _, _, [], _, [], hW', trodAll_mk1 (shut_bool Try.underlying4 _), (trodAll_cons_mk (Below.trod laidOut (by kernel_rfl) (of_decide_eq_true (by kernel_rfl)) k0 bel lt0) trodAll_mk0), rfl, bel.frame _, fun h => by cases h⟩
theorem over : Rows.laneFailsRow.holds Try.pinned (OpenSpec.ofChange Rows.laneFailsSpec) :=
  OpenClaim.holds_of_wide 4 Try.f4 rfl rfl rfl rfl rfl rfl rfl ⟨rfl, rfl, rfl, rfl, rfl⟩ rfl rfl rfl rfl rfl (by kernel_rfl) Try.func4 (by kernel_rfl)
    (of_decide_eq_true (by kernel_rfl)) (by unfold Func.isWrapper; first | (rw [if_pos (by decide +kernel)]; kernel_rfl) | (rw [if_neg (by decide +kernel)]; exact ⟨rfl, rfl⟩))
    (fun os started H enc _ => lifted os started H enc)
theorem proved : Rows.LaneFailsSaid := over
#print axioms proved

end Go.Proofs.Ytfifckcjadbiiaa.laneFails
