/- odds.Weighs: how much hangs on each part. -/
import Derived.Test.YtiocgmioijcjhaaWeighLaw
import Derived.Test.YtiocgmioijcjhaaCutsIdx
import Derived.Test.YtiocgmioijcjhaaGateLaw
import Derived.Test.YtiocgmioijcjhaaCells
namespace Go.Proofs.Ytiocgmioijcjhaa
open Go.ChangeShapes Go.WideShapes Go.ChangeAt Go.RowKit
set_option linter.unusedVariables false

abbrev TW : TypeId := 57
/-- eight numbers as cells -/
def wCells (f : Nat → Int) : List Value := (List.range 8).map fun i => .int .i64 (f i)
theorem wCells_len (f : Nat → Int) : (wCells f).length = 8 := by simp [wCells]
theorem wCells_at (f : Nat → Int) {i : Nat} (h : i < 8) : (wCells f)[i]? = some (.int .i64 (f i)) := by simp [wCells, h]
theorem wCells_set (f : Nat → Int) {i : Nat} (h : i < 8) (x : Int) : (wCells f).set i (.int .i64 x) = wCells fun j => if j = i then x else f j := by
  apply List.ext_getElem?
  intro j
  by_cases hj : j < 8
  · rw [wCells_at _ hj, List.getElem?_set]
    by_cases e : i = j
    · subst e; rw [if_pos rfl, if_pos (by rw [wCells_len]; exact hj), if_pos rfl]
    · rw [if_neg e, wCells_at _ hj, if_neg (fun h => e h.symm)]
  · rw [List.getElem?_eq_none (by rw [List.length_set, wCells_len]; omega), List.getElem?_eq_none (by rw [wCells_len]; omega)]
/-- in a round of s: the first m parts are told already -/
def wMid (ts : List GateR) (s m : Nat) : Nat → Int := fun i => if i < m then weighK ts (s + 1) i else weighK ts s i
theorem wMid_0 (ts : List GateR) (s : Nat) : wMid ts s 0 = weighK ts s := by funext i; simp [wMid]
theorem wMid_8 (ts : List GateR) (s : Nat) : wCells (wMid ts s 8) = wCells (weighK ts (s + 1)) := by
  unfold wCells
  refine List.map_congr_left fun i hi => ?_
  rw [wMid, if_pos (List.mem_range.1 hi)]
theorem weighK_no (ts : List GateR) (s : Nat) (h : topB ts s = false) : weighK ts (s + 1) = weighK ts s := by
  funext i
  show weighK ts s i + one (topB ts s) * sgn (s.testBit i) = _
  rw [h]
  show weighK ts s i + 0 * _ = _
  omega
theorem wMid_step (ts : List GateR) (s : Nat) (h : topB ts s = true) (m : Nat) : (fun j => if j = m then weighK ts s m + sgn (s.testBit m) else wMid ts s m j) = wMid ts s (m + 1) := by
  funext j
  unfold wMid
  by_cases e : j = m
  · subst e
    rw [if_pos rfl, if_pos (by omega)]
    show _ = weighK ts s j + one (topB ts s) * sgn (s.testBit j)
    rw [h]
    show _ = _ + 1 * _
    omega
  · rw [if_neg e]
    by_cases h1 : j < m
    · rw [if_pos h1, if_pos (by omega)]
    · rw [if_neg h1, if_neg (by omega)]
def WRel (ts : List GateR) (w : World) (w1 : World) (g0 g : Nat) (s : Value) (wr : World) : Prop :=
  ∃ k : Nat, k ≤ 256 ∧ s = .int .u16 k ∧ CellsAt wr g0 (wCells fun _ => 0) ∧ CellsAt wr g (wCells (weighK ts k)) ∧ Below w.heap.size w wr
def WIn (ts : List GateR) (s : Nat) (w : World) (g0 g : Nat) (j : Value) (wr : World) : Prop :=
  ∃ m : Nat, m ≤ 8 ∧ j = .int .i64 m ∧ CellsAt wr g0 (wCells fun _ => 0) ∧ CellsAt wr g (wCells (wMid ts s m)) ∧ Below w.heap.size w wr
def WVal (f : Nat → Int) : Value := .agg #[.int .i64 (f 0), .int .i64 (f 1), .int .i64 (f 2), .int .i64 (f 3), .int .i64 (f 4), .int .i64 (f 5), .int .i64 (f 6), .int .i64 (f 7)]
set_option maxHeartbeats 16000000 in
set_option maxRecDepth 100000 in
theorem weighs_yes (ts : List GateR) (v : Value) (w : World) (hv : GatesAt w v ts) (hok : TreeOk ts) :
    Calls Try.prog 31 #[v] w fun e w' => e = .returned (.tuple #[WVal (weigh ts), .int .i64 0]) ∧ Below w.heap.size w w' := by
  obtain ⟨a, cap, rfl⟩ := hv.len
  have HV := Lib.hid hv; have HOK := Lib.hid hok
  have hn2 := hok.2.1
  have C0 : Hid (CellsAt ((w.alloc (.cells #[.int .i64 0, .int .i64 0, .int .i64 0, .int .i64 0, .int .i64 0, .int .i64 0, .int .i64 0, .int .i64 0] TW)).alloc (.cells #[.int .i64 0, .int .i64 0, .int .i64 0, .int .i64 0, .int .i64 0, .int .i64 0, .int .i64 0, .int .i64 0] TW)) w.heap.size (wCells fun _ => 0)) := Lib.hid ((CellsAt.new w _ _ _ rfl).alloc _)
  have C1 : Hid (CellsAt ((w.alloc (.cells #[.int .i64 0, .int .i64 0, .int .i64 0, .int .i64 0, .int .i64 0, .int .i64 0, .int .i64 0, .int .i64 0] TW)).alloc (.cells #[.int .i64 0, .int .i64 0, .int .i64 0, .int .i64 0, .int .i64 0, .int .i64 0, .int .i64 0, .int .i64 0] TW)) (w.heap.size + 1) (wCells (weighK ts 0))) := Lib.hid (CellsAt.new' (by simp) rfl)
  have B0 : Hid (Below w.heap.size w ((w.alloc (.cells #[.int .i64 0, .int .i64 0, .int .i64 0, .int .i64 0, .int .i64 0, .int .i64 0, .int .i64 0, .int .i64 0] TW)).alloc (.cells #[.int .i64 0, .int .i64 0, .int .i64 0, .int .i64 0, .int .i64 0, .int .i64 0, .int .i64 0, .int .i64 0] TW))) := Lib.hid (((Below.refl _ _).alloc (Nat.le_refl _) _).alloc (by simp) _)
  clear hv hok
  go_enter Try.func31, Try.ntmps31
  go_wp2_with fail
  generalize (w.alloc (.cells #[.int .i64 0, .int .i64 0, .int .i64 0, .int .i64 0, .int .i64 0, .int .i64 0, .int .i64 0, .int .i64 0] TW)).alloc (.cells #[.int .i64 0, .int .i64 0, .int .i64 0, .int .i64 0, .int .i64 0, .int .i64 0, .int .i64 0, .int .i64 0] TW) = w0 at *
  refine (cutsCheck_is ts _ _ (HV.out.later B0.out) (by omega)).mono ?_
  rintro e w1 ⟨h1, -, hb1⟩
  obtain rfl := h1 HOK.out
  have D0 := Lib.hid (C0.out.call hb1); have D1 := Lib.hid (C1.out.call hb1)
  have B1 := Lib.hid (B0.out.trans (hb1.mono B0.out.size))
  clear h1 hb1 C0 C1 B0
  go_wp2_with fail
  go_loopw [16] (fun s wr => WRel ts w w1 w.heap.size (w.heap.size + 1) s wr) (fun s _ => 256 - (intOf s).toNat)
  case atStart => exact ⟨0, by omega, rfl, D0.out, D1.out, B1.out⟩
  case round =>
    clear D0 D1 B1
    obtain ⟨s, hs, rfl, hc0, hc1, hB⟩ := hrel
    have HC0 := Lib.hid hc0; have HC1 := Lib.hid hc1; have HB := Lib.hid hB
    have zB := hB.size
    by_cases hlt : s < 256
    · have e5 : (s : Int) < 256 := by omega
      have huw : IntKind.u16.wrap ((s : Int) + 1) = (s : Int) + 1 := IntWalk.u16_in _ (by omega)
      clear hc0 hc1 hB
      go_wp2_with fail
      refine (cutsFails_yes ts s _ _ (HV.out.later HB.out) HOK.out (by omega)).mono ?_
      rintro e w8 ⟨rfl, hb8⟩
      have D0 := Lib.hid (HC0.out.call hb8); have D1 := Lib.hid (HC1.out.call hb8)
      have B8 := Lib.hid (HB.out.trans (hb8.mono zB))
      clear hb8
      cases hr : topB ts s
      · have HN := Lib.hid (weighK_no ts s hr)
        clear hr
        go_wp2
        go_roundw
        case rel => exact ⟨s + 1, by omega, by go_num, D0.out, by rw [HN.out]; exact D1.out, B8.out⟩
        case measure => simp [intOf]; omega
      · have HST := Lib.hid (wMid_step ts s hr)
        have D2 : Hid (CellsAt w8 (w.heap.size + 1) (wCells (wMid ts s 0))) := Lib.hid (by rw [wMid_0]; exact D1.out)
        clear hr D1
        go_wp2_with fail
        go_loopw [26] (fun j wx => WIn ts s w w.heap.size (w.heap.size + 1) j wx) (fun j _ => 8 - (intOf j).toNat)
        case atStart => exact ⟨0, by omega, rfl, D0.out, D2.out, B8.out⟩
        case round =>
          clear D0 D2 B8
          obtain ⟨m, hm, rfl, hd0, hd1, hB2⟩ := hrel
          have HD0 := Lib.hid hd0; have HD1 := Lib.hid hd1; have HB2 := Lib.hid hB2
          have zB2 := hB2.size
          have zD := hd1.lt
          by_cases hlt2 : m < 8
          · have hcc := hd1.at_ m (wCells_at _ hlt2)
            have hcf := hd1.2.1 m
            have hms : wMid ts s m m = weighK ts s m := by unfold wMid; rw [if_neg (by omega)]
            rw [hms] at hcc
            have hbd := weighK_bd ts s m
            have HSM := Lib.hid (HST.out m)
            obtain ⟨x, hx⟩ : ∃ x, weighK ts s m = x := ⟨_, rfl⟩
            rw [hx] at hcc hbd HSM
            clear hd0 hd1 hB2 hms hx
            rcases (by omega : m = 0 ∨ m = 1 ∨ m = 2 ∨ m = 3 ∨ m = 4 ∨ m = 5 ∨ m = 6 ∨ m = 7) with rfl | rfl | rfl | rfl | rfl | rfl | rfl | rfl
            · have eb : (bits BinOp.and IntKind.u16 ((s : Int) / 1) 1 == 1) = s.testBit 0 := bit_is s 0 1 (by omega) rfl
              (try rw [Int.ediv_one] at eb)
              rw [show ((0 : Nat) : Int) = 0 from rfl]
              cases hr : s.testBit 0
              · rw [hr] at eb
                have HK : Hid (CellsAt (wr.setCell ⟨w.heap.size + 1, 0, none⟩ (.int .i64 (x - 1))) (w.heap.size + 1) (wCells (wMid ts s (0 + 1)))) := Lib.hid (by
                  have h5 := HD1.out.set_ 0 (by rw [wCells_len]; omega) (.int .i64 (x - 1))
                  rw [wCells_set _ (by omega)] at h5
                  rw [← HSM.out, hr]; exact h5)
                clear hr
                go_wp2
                go_roundw
                case rel => exact ⟨0 + 1, by omega, by go_num, HD0.out.other (by omega) _ _, HK.out, HB2.out.setCell (p := ⟨w.heap.size + 1, 0, none⟩) (by show w.heap.size ≤ w.heap.size + 1; omega) _⟩
                case measure => simp [intOf]
              · rw [hr] at eb
                have HK : Hid (CellsAt (wr.setCell ⟨w.heap.size + 1, 0, none⟩ (.int .i64 (x + 1))) (w.heap.size + 1) (wCells (wMid ts s (0 + 1)))) := Lib.hid (by
                  have h5 := HD1.out.set_ 0 (by rw [wCells_len]; omega) (.int .i64 (x + 1))
                  rw [wCells_set _ (by omega)] at h5
                  rw [← HSM.out, hr]; exact h5)
                clear hr
                go_wp2
                go_roundw
                case rel => exact ⟨0 + 1, by omega, by go_num, HD0.out.other (by omega) _ _, HK.out, HB2.out.setCell (p := ⟨w.heap.size + 1, 0, none⟩) (by show w.heap.size ≤ w.heap.size + 1; omega) _⟩
                case measure => simp [intOf]
            · have eb : (bits BinOp.and IntKind.u16 ((s : Int) / 2) 1 == 1) = s.testBit 1 := bit_is s 1 2 (by omega) rfl
              (try rw [Int.ediv_one] at eb)
              rw [show ((1 : Nat) : Int) = 1 from rfl]
              cases hr : s.testBit 1
              · rw [hr] at eb
                have HK : Hid (CellsAt (wr.setCell ⟨w.heap.size + 1, 1, none⟩ (.int .i64 (x - 1))) (w.heap.size + 1) (wCells (wMid ts s (1 + 1)))) := Lib.hid (by
                  have h5 := HD1.out.set_ 1 (by rw [wCells_len]; omega) (.int .i64 (x - 1))
                  rw [wCells_set _ (by omega)] at h5
                  rw [← HSM.out, hr]; exact h5)
                clear hr
                go_wp2
                go_roundw
                case rel => exact ⟨1 + 1, by omega, by go_num, HD0.out.other (by omega) _ _, HK.out, HB2.out.setCell (p := ⟨w.heap.size + 1, 1, none⟩) (by show w.heap.size ≤ w.heap.size + 1; omega) _⟩
                case measure => simp [intOf]
              · rw [hr] at eb
                have HK : Hid (CellsAt (wr.setCell ⟨w.heap.size + 1, 1, none⟩ (.int .i64 (x + 1))) (w.heap.size + 1) (wCells (wMid ts s (1 + 1)))) := Lib.hid (by
                  have h5 := HD1.out.set_ 1 (by rw [wCells_len]; omega) (.int .i64 (x + 1))
                  rw [wCells_set _ (by omega)] at h5
                  rw [← HSM.out, hr]; exact h5)
                clear hr
                go_wp2
                go_roundw
                case rel => exact ⟨1 + 1, by omega, by go_num, HD0.out.other (by omega) _ _, HK.out, HB2.out.setCell (p := ⟨w.heap.size + 1, 1, none⟩) (by show w.heap.size ≤ w.heap.size + 1; omega) _⟩
                case measure => simp [intOf]
            · have eb : (bits BinOp.and IntKind.u16 ((s : Int) / 4) 1 == 1) = s.testBit 2 := bit_is s 2 4 (by omega) rfl
              (try rw [Int.ediv_one] at eb)
              rw [show ((2 : Nat) : Int) = 2 from rfl]
              cases hr : s.testBit 2
              · rw [hr] at eb
                have HK : Hid (CellsAt (wr.setCell ⟨w.heap.size + 1, 2, none⟩ (.int .i64 (x - 1))) (w.heap.size + 1) (wCells (wMid ts s (2 + 1)))) := Lib.hid (by
                  have h5 := HD1.out.set_ 2 (by rw [wCells_len]; omega) (.int .i64 (x - 1))
                  rw [wCells_set _ (by omega)] at h5
                  rw [← HSM.out, hr]; exact h5)
                clear hr
                go_wp2
                go_roundw
                case rel => exact ⟨2 + 1, by omega, by go_num, HD0.out.other (by omega) _ _, HK.out, HB2.out.setCell (p := ⟨w.heap.size + 1, 2, none⟩) (by show w.heap.size ≤ w.heap.size + 1; omega) _⟩
                case measure => simp [intOf]
              · rw [hr] at eb
                have HK : Hid (CellsAt (wr.setCell ⟨w.heap.size + 1, 2, none⟩ (.int .i64 (x + 1))) (w.heap.size + 1) (wCells (wMid ts s (2 + 1)))) := Lib.hid (by
                  have h5 := HD1.out.set_ 2 (by rw [wCells_len]; omega) (.int .i64 (x + 1))
                  rw [wCells_set _ (by omega)] at h5
                  rw [← HSM.out, hr]; exact h5)
                clear hr
                go_wp2
                go_roundw
                case rel => exact ⟨2 + 1, by omega, by go_num, HD0.out.other (by omega) _ _, HK.out, HB2.out.setCell (p := ⟨w.heap.size + 1, 2, none⟩) (by show w.heap.size ≤ w.heap.size + 1; omega) _⟩
                case measure => simp [intOf]
            · have eb : (bits BinOp.and IntKind.u16 ((s : Int) / 8) 1 == 1) = s.testBit 3 := bit_is s 3 8 (by omega) rfl
              (try rw [Int.ediv_one] at eb)
              rw [show ((3 : Nat) : Int) = 3 from rfl]
              cases hr : s.testBit 3
              · rw [hr] at eb
                have HK : Hid (CellsAt (wr.setCell ⟨w.heap.size + 1, 3, none⟩ (.int .i64 (x - 1))) (w.heap.size + 1) (wCells (wMid ts s (3 + 1)))) := Lib.hid (by
                  have h5 := HD1.out.set_ 3 (by rw [wCells_len]; omega) (.int .i64 (x - 1))
                  rw [wCells_set _ (by omega)] at h5
                  rw [← HSM.out, hr]; exact h5)
                clear hr
                go_wp2
                go_roundw
                case rel => exact ⟨3 + 1, by omega, by go_num, HD0.out.other (by omega) _ _, HK.out, HB2.out.setCell (p := ⟨w.heap.size + 1, 3, none⟩) (by show w.heap.size ≤ w.heap.size + 1; omega) _⟩
                case measure => simp [intOf]
              · rw [hr] at eb
                have HK : Hid (CellsAt (wr.setCell ⟨w.heap.size + 1, 3, none⟩ (.int .i64 (x + 1))) (w.heap.size + 1) (wCells (wMid ts s (3 + 1)))) := Lib.hid (by
                  have h5 := HD1.out.set_ 3 (by rw [wCells_len]; omega) (.int .i64 (x + 1))
                  rw [wCells_set _ (by omega)] at h5
                  rw [← HSM.out, hr]; exact h5)
                clear hr
                go_wp2
                go_roundw
                case rel => exact ⟨3 + 1, by omega, by go_num, HD0.out.other (by omega) _ _, HK.out, HB2.out.setCell (p := ⟨w.heap.size + 1, 3, none⟩) (by show w.heap.size ≤ w.heap.size + 1; omega) _⟩
                case measure => simp [intOf]
            · have eb : (bits BinOp.and IntKind.u16 ((s : Int) / 16) 1 == 1) = s.testBit 4 := bit_is s 4 16 (by omega) rfl
              (try rw [Int.ediv_one] at eb)
              rw [show ((4 : Nat) : Int) = 4 from rfl]
              cases hr : s.testBit 4
              · rw [hr] at eb
                have HK : Hid (CellsAt (wr.setCell ⟨w.heap.size + 1, 4, none⟩ (.int .i64 (x - 1))) (w.heap.size + 1) (wCells (wMid ts s (4 + 1)))) := Lib.hid (by
                  have h5 := HD1.out.set_ 4 (by rw [wCells_len]; omega) (.int .i64 (x - 1))
                  rw [wCells_set _ (by omega)] at h5
                  rw [← HSM.out, hr]; exact h5)
                clear hr
                go_wp2
                go_roundw
                case rel => exact ⟨4 + 1, by omega, by go_num, HD0.out.other (by omega) _ _, HK.out, HB2.out.setCell (p := ⟨w.heap.size + 1, 4, none⟩) (by show w.heap.size ≤ w.heap.size + 1; omega) _⟩
                case measure => simp [intOf]
              · rw [hr] at eb
                have HK : Hid (CellsAt (wr.setCell ⟨w.heap.size + 1, 4, none⟩ (.int .i64 (x + 1))) (w.heap.size + 1) (wCells (wMid ts s (4 + 1)))) := Lib.hid (by
                  have h5 := HD1.out.set_ 4 (by rw [wCells_len]; omega) (.int .i64 (x + 1))
                  rw [wCells_set _ (by omega)] at h5
                  rw [← HSM.out, hr]; exact h5)
                clear hr
                go_wp2
                go_roundw
                case rel => exact ⟨4 + 1, by omega, by go_num, HD0.out.other (by omega) _ _, HK.out, HB2.out.setCell (p := ⟨w.heap.size + 1, 4, none⟩) (by show w.heap.size ≤ w.heap.size + 1; omega) _⟩
                case measure => simp [intOf]
            · have eb : (bits BinOp.and IntKind.u16 ((s : Int) / 32) 1 == 1) = s.testBit 5 := bit_is s 5 32 (by omega) rfl
              (try rw [Int.ediv_one] at eb)
              rw [show ((5 : Nat) : Int) = 5 from rfl]
              cases hr : s.testBit 5
              · rw [hr] at eb
                have HK : Hid (CellsAt (wr.setCell ⟨w.heap.size + 1, 5, none⟩ (.int .i64 (x - 1))) (w.heap.size + 1) (wCells (wMid ts s (5 + 1)))) := Lib.hid (by
                  have h5 := HD1.out.set_ 5 (by rw [wCells_len]; omega) (.int .i64 (x - 1))
                  rw [wCells_set _ (by omega)] at h5
                  rw [← HSM.out, hr]; exact h5)
                clear hr
                go_wp2
                go_roundw
                case rel => exact ⟨5 + 1, by omega, by go_num, HD0.out.other (by omega) _ _, HK.out, HB2.out.setCell (p := ⟨w.heap.size + 1, 5, none⟩) (by show w.heap.size ≤ w.heap.size + 1; omega) _⟩
                case measure => simp [intOf]
              · rw [hr] at eb
                have HK : Hid (CellsAt (wr.setCell ⟨w.heap.size + 1, 5, none⟩ (.int .i64 (x + 1))) (w.heap.size + 1) (wCells (wMid ts s (5 + 1)))) := Lib.hid (by
                  have h5 := HD1.out.set_ 5 (by rw [wCells_len]; omega) (.int .i64 (x + 1))
                  rw [wCells_set _ (by omega)] at h5
                  rw [← HSM.out, hr]; exact h5)
                clear hr
                go_wp2
                go_roundw
                case rel => exact ⟨5 + 1, by omega, by go_num, HD0.out.other (by omega) _ _, HK.out, HB2.out.setCell (p := ⟨w.heap.size + 1, 5, none⟩) (by show w.heap.size ≤ w.heap.size + 1; omega) _⟩
                case measure => simp [intOf]
            · have eb : (bits BinOp.and IntKind.u16 ((s : Int) / 64) 1 == 1) = s.testBit 6 := bit_is s 6 64 (by omega) rfl
              (try rw [Int.ediv_one] at eb)
              rw [show ((6 : Nat) : Int) = 6 from rfl]
              cases hr : s.testBit 6
              · rw [hr] at eb
                have HK : Hid (CellsAt (wr.setCell ⟨w.heap.size + 1, 6, none⟩ (.int .i64 (x - 1))) (w.heap.size + 1) (wCells (wMid ts s (6 + 1)))) := Lib.hid (by
                  have h5 := HD1.out.set_ 6 (by rw [wCells_len]; omega) (.int .i64 (x - 1))
                  rw [wCells_set _ (by omega)] at h5
                  rw [← HSM.out, hr]; exact h5)
                clear hr
                go_wp2
                go_roundw
                case rel => exact ⟨6 + 1, by omega, by go_num, HD0.out.other (by omega) _ _, HK.out, HB2.out.setCell (p := ⟨w.heap.size + 1, 6, none⟩) (by show w.heap.size ≤ w.heap.size + 1; omega) _⟩
                case measure => simp [intOf]
              · rw [hr] at eb
                have HK : Hid (CellsAt (wr.setCell ⟨w.heap.size + 1, 6, none⟩ (.int .i64 (x + 1))) (w.heap.size + 1) (wCells (wMid ts s (6 + 1)))) := Lib.hid (by
                  have h5 := HD1.out.set_ 6 (by rw [wCells_len]; omega) (.int .i64 (x + 1))
                  rw [wCells_set _ (by omega)] at h5
                  rw [← HSM.out, hr]; exact h5)
                clear hr
                go_wp2
                go_roundw
                case rel => exact ⟨6 + 1, by omega, by go_num, HD0.out.other (by omega) _ _, HK.out, HB2.out.setCell (p := ⟨w.heap.size + 1, 6, none⟩) (by show w.heap.size ≤ w.heap.size + 1; omega) _⟩
                case measure => simp [intOf]
            · have eb : (bits BinOp.and IntKind.u16 ((s : Int) / 128) 1 == 1) = s.testBit 7 := bit_is s 7 128 (by omega) rfl
              (try rw [Int.ediv_one] at eb)
              rw [show ((7 : Nat) : Int) = 7 from rfl]
              cases hr : s.testBit 7
              · rw [hr] at eb
                have HK : Hid (CellsAt (wr.setCell ⟨w.heap.size + 1, 7, none⟩ (.int .i64 (x - 1))) (w.heap.size + 1) (wCells (wMid ts s (7 + 1)))) := Lib.hid (by
                  have h5 := HD1.out.set_ 7 (by rw [wCells_len]; omega) (.int .i64 (x - 1))
                  rw [wCells_set _ (by omega)] at h5
                  rw [← HSM.out, hr]; exact h5)
                clear hr
                go_wp2
                go_roundw
                case rel => exact ⟨7 + 1, by omega, by go_num, HD0.out.other (by omega) _ _, HK.out, HB2.out.setCell (p := ⟨w.heap.size + 1, 7, none⟩) (by show w.heap.size ≤ w.heap.size + 1; omega) _⟩
                case measure => simp [intOf]
              · rw [hr] at eb
                have HK : Hid (CellsAt (wr.setCell ⟨w.heap.size + 1, 7, none⟩ (.int .i64 (x + 1))) (w.heap.size + 1) (wCells (wMid ts s (7 + 1)))) := Lib.hid (by
                  have h5 := HD1.out.set_ 7 (by rw [wCells_len]; omega) (.int .i64 (x + 1))
                  rw [wCells_set _ (by omega)] at h5
                  rw [← HSM.out, hr]; exact h5)
                clear hr
                go_wp2
                go_roundw
                case rel => exact ⟨7 + 1, by omega, by go_num, HD0.out.other (by omega) _ _, HK.out, HB2.out.setCell (p := ⟨w.heap.size + 1, 7, none⟩) (by show w.heap.size ≤ w.heap.size + 1; omega) _⟩
                case measure => simp [intOf]
          · obtain rfl : m = 8 := by omega
            rw [wMid_8] at HD1
            rw [show ((8 : Nat) : Int) = 8 from rfl]
            clear hd0 hd1 hB2
            go_wp2
            go_roundw
            case rel => exact ⟨s + 1, by omega, by go_num, HD0.out, HD1.out, HB2.out⟩
            case measure => simp [intOf]; omega
    · obtain rfl : s = 256 := by omega
      rw [show ((256 : Nat) : Int) = 256 from rfl]
      have z0 := hc0.lt; have z1 := hc1.lt
      have a0 := hc0.at_ 0 rfl; have a1 := hc0.at_ 1 rfl; have a2 := hc0.at_ 2 rfl; have a3 := hc0.at_ 3 rfl; have a4 := hc0.at_ 4 rfl; have a5 := hc0.at_ 5 rfl; have a6 := hc0.at_ 6 rfl; have a7 := hc0.at_ 7 rfl
      have f0 := hc0.2.1 0; have f1 := hc0.2.1 1; have f2 := hc0.2.1 2; have f3 := hc0.2.1 3; have f4 := hc0.2.1 4; have f5 := hc0.2.1 5; have f6 := hc0.2.1 6; have f7 := hc0.2.1 7
      have HW : Hid (weighK ts 256 = weigh ts) := Lib.hid rfl
      rw [HW.out] at hc1
      have b0 := hc1.at_ 0 rfl; have b1 := hc1.at_ 1 rfl; have b2 := hc1.at_ 2 rfl; have b3 := hc1.at_ 3 rfl; have b4 := hc1.at_ 4 rfl; have b5 := hc1.at_ 5 rfl; have b6 := hc1.at_ 6 rfl; have b7 := hc1.at_ 7 rfl
      clear hc0 hc1 hB
      go_wp2
      have E : Hid (CellsAt ((((((((wr.setCell ⟨w.heap.size, 0, none⟩ (.int .i64 (weigh ts 0))).setCell ⟨w.heap.size, 1, none⟩ (.int .i64 (weigh ts 1))).setCell ⟨w.heap.size, 2, none⟩ (.int .i64 (weigh ts 2))).setCell ⟨w.heap.size, 3, none⟩ (.int .i64 (weigh ts 3))).setCell ⟨w.heap.size, 4, none⟩ (.int .i64 (weigh ts 4))).setCell ⟨w.heap.size, 5, none⟩ (.int .i64 (weigh ts 5))).setCell ⟨w.heap.size, 6, none⟩ (.int .i64 (weigh ts 6))).setCell ⟨w.heap.size, 7, none⟩ (.int .i64 (weigh ts 7))) w.heap.size [.int .i64 (weigh ts 0), .int .i64 (weigh ts 1), .int .i64 (weigh ts 2), .int .i64 (weigh ts 3), .int .i64 (weigh ts 4), .int .i64 (weigh ts 5), .int .i64 (weigh ts 6), .int .i64 (weigh ts 7)]) := Lib.hid ((((((((HC0.out.set_ 0 (by simp [wCells]) (.int .i64 (weigh ts 0))).set_ 1 (by simp [wCells]) (.int .i64 (weigh ts 1))).set_ 2 (by simp [wCells]) (.int .i64 (weigh ts 2))).set_ 3 (by simp [wCells]) (.int .i64 (weigh ts 3))).set_ 4 (by simp [wCells]) (.int .i64 (weigh ts 4))).set_ 5 (by simp [wCells]) (.int .i64 (weigh ts 5))).set_ 6 (by simp [wCells]) (.int .i64 (weigh ts 6))).set_ 7 (by simp [wCells]) (.int .i64 (weigh ts 7)))
      have B : Hid (Below w.heap.size w ((((((((wr.setCell ⟨w.heap.size, 0, none⟩ (.int .i64 (weigh ts 0))).setCell ⟨w.heap.size, 1, none⟩ (.int .i64 (weigh ts 1))).setCell ⟨w.heap.size, 2, none⟩ (.int .i64 (weigh ts 2))).setCell ⟨w.heap.size, 3, none⟩ (.int .i64 (weigh ts 3))).setCell ⟨w.heap.size, 4, none⟩ (.int .i64 (weigh ts 4))).setCell ⟨w.heap.size, 5, none⟩ (.int .i64 (weigh ts 5))).setCell ⟨w.heap.size, 6, none⟩ (.int .i64 (weigh ts 6))).setCell ⟨w.heap.size, 7, none⟩ (.int .i64 (weigh ts 7)))) := Lib.hid ((((((((HB.out.setCell (p := ⟨w.heap.size, 0, none⟩) (Nat.le_refl _) _).setCell (p := ⟨w.heap.size, 1, none⟩) (Nat.le_refl _) _).setCell (p := ⟨w.heap.size, 2, none⟩) (Nat.le_refl _) _).setCell (p := ⟨w.heap.size, 3, none⟩) (Nat.le_refl _) _).setCell (p := ⟨w.heap.size, 4, none⟩) (Nat.le_refl _) _).setCell (p := ⟨w.heap.size, 5, none⟩) (Nat.le_refl _) _).setCell (p := ⟨w.heap.size, 6, none⟩) (Nat.le_refl _) _).setCell (p := ⟨w.heap.size, 7, none⟩) (Nat.le_refl _) _)
      generalize ((((((((wr.setCell ⟨w.heap.size, 0, none⟩ (.int .i64 (weigh ts 0))).setCell ⟨w.heap.size, 1, none⟩ (.int .i64 (weigh ts 1))).setCell ⟨w.heap.size, 2, none⟩ (.int .i64 (weigh ts 2))).setCell ⟨w.heap.size, 3, none⟩ (.int .i64 (weigh ts 3))).setCell ⟨w.heap.size, 4, none⟩ (.int .i64 (weigh ts 4))).setCell ⟨w.heap.size, 5, none⟩ (.int .i64 (weigh ts 5))).setCell ⟨w.heap.size, 6, none⟩ (.int .i64 (weigh ts 6))).setCell ⟨w.heap.size, 7, none⟩ (.int .i64 (weigh ts 7))) = w9 at *
      have e0 := E.out.at_ 0 rfl; have e1 := E.out.at_ 1 rfl; have e2 := E.out.at_ 2 rfl; have e3 := E.out.at_ 3 rfl; have e4 := E.out.at_ 4 rfl; have e5 := E.out.at_ 5 rfl; have e6 := E.out.at_ 6 rfl; have e7 := E.out.at_ 7 rfl
      exact bodyPost_ret (v := .tuple #[WVal (weigh ts), .int .i64 0]) (by simp [results, Try.results31, WVal, go_sem, e0, e1, e2, e3, e4, e5, e6, e7]) rfl ⟨rfl, B.out⟩
set_option maxHeartbeats 8000000 in
set_option maxRecDepth 100000 in
theorem weighs_no (ts : List GateR) (v : Value) (w : World) (hv : GatesAt w v ts) (hok : ¬ TreeOk ts) (hm : ts.length ≤ 281474976710656) :
    Calls Try.prog 31 #[v] w fun e w' => (∃ c : Int, c ≠ 0 ∧ e = .returned (.tuple #[WVal (fun _ => 0), .int .i64 c])) ∧ Below w.heap.size w w' := by
  obtain ⟨a, cap, rfl⟩ := hv.len
  have HV := Lib.hid hv; have HOK := Lib.hid hok
  have C0 : Hid (CellsAt ((w.alloc (.cells #[.int .i64 0, .int .i64 0, .int .i64 0, .int .i64 0, .int .i64 0, .int .i64 0, .int .i64 0, .int .i64 0] TW)).alloc (.cells #[.int .i64 0, .int .i64 0, .int .i64 0, .int .i64 0, .int .i64 0, .int .i64 0, .int .i64 0, .int .i64 0] TW)) w.heap.size (wCells fun _ => 0)) := Lib.hid ((CellsAt.new w _ _ _ rfl).alloc _)
  have C1 : Hid (CellsAt ((w.alloc (.cells #[.int .i64 0, .int .i64 0, .int .i64 0, .int .i64 0, .int .i64 0, .int .i64 0, .int .i64 0, .int .i64 0] TW)).alloc (.cells #[.int .i64 0, .int .i64 0, .int .i64 0, .int .i64 0, .int .i64 0, .int .i64 0, .int .i64 0, .int .i64 0] TW)) (w.heap.size + 1) (wCells fun _ => 0)) := Lib.hid (CellsAt.new' (by simp) rfl)
  have B0 : Hid (Below w.heap.size w ((w.alloc (.cells #[.int .i64 0, .int .i64 0, .int .i64 0, .int .i64 0, .int .i64 0, .int .i64 0, .int .i64 0, .int .i64 0] TW)).alloc (.cells #[.int .i64 0, .int .i64 0, .int .i64 0, .int .i64 0, .int .i64 0, .int .i64 0, .int .i64 0, .int .i64 0] TW))) := Lib.hid (((Below.refl _ _).alloc (Nat.le_refl _) _).alloc (by simp) _)
  clear hv hok
  go_enter Try.func31, Try.ntmps31
  go_wp2_with fail
  generalize ((w.alloc (.cells #[.int .i64 0, .int .i64 0, .int .i64 0, .int .i64 0, .int .i64 0, .int .i64 0, .int .i64 0, .int .i64 0] TW)).alloc (.cells #[.int .i64 0, .int .i64 0, .int .i64 0, .int .i64 0, .int .i64 0, .int .i64 0, .int .i64 0, .int .i64 0] TW)) = w0 at *
  refine (cutsCheck_is ts _ _ (HV.out.later B0.out) hm).mono ?_
  rintro e w1 ⟨-, h1, hb1⟩
  obtain ⟨c, hc, rfl⟩ := h1 HOK.out
  have hcb : (c == 0) = false := by simpa using hc
  have hc2 : (c != 0) = true := by simpa using hc
  have HC := Lib.hid hc
  have D0 := Lib.hid (C0.out.call hb1); have D1 := Lib.hid (C1.out.call hb1)
  have B1 := Lib.hid (B0.out.trans (hb1.mono B0.out.size))
  clear h1 hb1 C0 C1 B0 hc
  have z0 := D0.out.lt; have z1 := D1.out.lt
  have a0 := D0.out.at_ 0 rfl; have a1 := D0.out.at_ 1 rfl; have a2 := D0.out.at_ 2 rfl; have a3 := D0.out.at_ 3 rfl; have a4 := D0.out.at_ 4 rfl; have a5 := D0.out.at_ 5 rfl; have a6 := D0.out.at_ 6 rfl; have a7 := D0.out.at_ 7 rfl
  have f0 := D0.out.2.1 0; have f1 := D0.out.2.1 1; have f2 := D0.out.2.1 2; have f3 := D0.out.2.1 3; have f4 := D0.out.2.1 4; have f5 := D0.out.2.1 5; have f6 := D0.out.2.1 6; have f7 := D0.out.2.1 7
  have b0 := D1.out.at_ 0 rfl; have b1 := D1.out.at_ 1 rfl; have b2 := D1.out.at_ 2 rfl; have b3 := D1.out.at_ 3 rfl; have b4 := D1.out.at_ 4 rfl; have b5 := D1.out.at_ 5 rfl; have b6 := D1.out.at_ 6 rfl; have b7 := D1.out.at_ 7 rfl
  go_wp2
  have E : Hid (CellsAt ((((((((w1.setCell ⟨w.heap.size, 0, none⟩ (.int .i64 0)).setCell ⟨w.heap.size, 1, none⟩ (.int .i64 0)).setCell ⟨w.heap.size, 2, none⟩ (.int .i64 0)).setCell ⟨w.heap.size, 3, none⟩ (.int .i64 0)).setCell ⟨w.heap.size, 4, none⟩ (.int .i64 0)).setCell ⟨w.heap.size, 5, none⟩ (.int .i64 0)).setCell ⟨w.heap.size, 6, none⟩ (.int .i64 0)).setCell ⟨w.heap.size, 7, none⟩ (.int .i64 0)) w.heap.size [.int .i64 0, .int .i64 0, .int .i64 0, .int .i64 0, .int .i64 0, .int .i64 0, .int .i64 0, .int .i64 0]) := Lib.hid ((((((((D0.out.set_ 0 (by simp [wCells]) (.int .i64 0)).set_ 1 (by simp [wCells]) (.int .i64 0)).set_ 2 (by simp [wCells]) (.int .i64 0)).set_ 3 (by simp [wCells]) (.int .i64 0)).set_ 4 (by simp [wCells]) (.int .i64 0)).set_ 5 (by simp [wCells]) (.int .i64 0)).set_ 6 (by simp [wCells]) (.int .i64 0)).set_ 7 (by simp [wCells]) (.int .i64 0))
  have B : Hid (Below w.heap.size w ((((((((w1.setCell ⟨w.heap.size, 0, none⟩ (.int .i64 0)).setCell ⟨w.heap.size, 1, none⟩ (.int .i64 0)).setCell ⟨w.heap.size, 2, none⟩ (.int .i64 0)).setCell ⟨w.heap.size, 3, none⟩ (.int .i64 0)).setCell ⟨w.heap.size, 4, none⟩ (.int .i64 0)).setCell ⟨w.heap.size, 5, none⟩ (.int .i64 0)).setCell ⟨w.heap.size, 6, none⟩ (.int .i64 0)).setCell ⟨w.heap.size, 7, none⟩ (.int .i64 0))) := Lib.hid ((((((((B1.out.setCell (p := ⟨w.heap.size, 0, none⟩) (Nat.le_refl _) _).setCell (p := ⟨w.heap.size, 1, none⟩) (Nat.le_refl _) _).setCell (p := ⟨w.heap.size, 2, none⟩) (Nat.le_refl _) _).setCell (p := ⟨w.heap.size, 3, none⟩) (Nat.le_refl _) _).setCell (p := ⟨w.heap.size, 4, none⟩) (Nat.le_refl _) _).setCell (p := ⟨w.heap.size, 5, none⟩) (Nat.le_refl _) _).setCell (p := ⟨w.heap.size, 6, none⟩) (Nat.le_refl _) _).setCell (p := ⟨w.heap.size, 7, none⟩) (Nat.le_refl _) _)
  generalize ((((((((w1.setCell ⟨w.heap.size, 0, none⟩ (.int .i64 0)).setCell ⟨w.heap.size, 1, none⟩ (.int .i64 0)).setCell ⟨w.heap.size, 2, none⟩ (.int .i64 0)).setCell ⟨w.heap.size, 3, none⟩ (.int .i64 0)).setCell ⟨w.heap.size, 4, none⟩ (.int .i64 0)).setCell ⟨w.heap.size, 5, none⟩ (.int .i64 0)).setCell ⟨w.heap.size, 6, none⟩ (.int .i64 0)).setCell ⟨w.heap.size, 7, none⟩ (.int .i64 0)) = w9 at *
  have e0 := E.out.at_ 0 rfl; have e1 := E.out.at_ 1 rfl; have e2 := E.out.at_ 2 rfl; have e3 := E.out.at_ 3 rfl; have e4 := E.out.at_ 4 rfl; have e5 := E.out.at_ 5 rfl; have e6 := E.out.at_ 6 rfl; have e7 := E.out.at_ 7 rfl
  exact bodyPost_ret (v := .tuple #[WVal (fun _ => 0), .int .i64 c]) (by simp [results, Try.results31, WVal, go_sem, e0, e1, e2, e3, e4, e5, e6, e7]) rfl ⟨⟨c, HC.out, rfl⟩, B.out⟩

end Go.Proofs.Ytiocgmioijcjhaa
