/- OddsWeigh: whatever the tree is, the law answers true and leaves memory as it was. -/
import Derived.Test.YtiocgmioijcjhaaWeigh
import Derived.Test.YtiocgmioijcjhaaWeighWith
import Derived.Test.YtiocgmioijcjhaaCutsEither
import Derived.Test.YtiocgmioijcjhaaGateOpen
namespace Go.Proofs.Ytiocgmioijcjhaa.oddsWeigh
open Go.ChangeShapes Go.WideShapes Go.ChangeAt Go.RowKit Go.Proofs.Ytiocgmioijcjhaa Go.Proofs.Ytiocgmioijcjhaa.Open
set_option linter.unusedVariables false
def Post (w : World) (e : Ending) (w' : World) : Prop := e = .returned (.bool true) ∧ Below w.heap.size w w'
theorem wval_either : WVal (weigh eitherL) = .agg #[.int .i64 64, .int .i64 64, .int .i64 0, .int .i64 0, .int .i64 0, .int .i64 0, .int .i64 0, .int .i64 0] := by
  have h : ∀ i x, i < 8 → ([64, 64, 0, 0, 0, 0, 0, 0] : List Int)[i]? = some x → weigh eitherL i = x := fun i x hi hx => by
    rw [← weigh_either, List.getElem?_map, List.getElem?_range hi] at hx
    exact Option.some.inj hx
  unfold WVal
  rw [h 0 64 (by omega) rfl, h 1 64 (by omega) rfl, h 2 0 (by omega) rfl, h 3 0 (by omega) rfl, h 4 0 (by omega) rfl, h 5 0 (by omega) rfl, h 6 0 (by omega) rfl, h 7 0 (by omega) rfl]
def IRel (ts : List GateR) (i : Nat) (w : World) (n s : Value) (wr : World) : Prop :=
  ∃ m : Nat, m ≤ 256 ∧ s = .int .u16 m ∧ n = .int .i64 (sumTo m fun s => one (crit ts i s)) ∧ Below w.heap.size w wr
set_option maxHeartbeats 32000000 in
set_option maxRecDepth 100000 in
theorem way (ts : List GateR) (v : Value) (w : World) (hv : GatesAt w v ts) (hm : ts.length ≤ 281474976710656) :
    Calls Try.prog 8 #[v] w (Post w) := by
  obtain ⟨a, cap, rfl⟩ := hv.len
  have HV := Lib.hid hv
  clear hv
  have q1 : ∀ w : World, (Op.equalIn 10000 57 (.agg #[.int .i64 64, .int .i64 64, .int .i64 0, .int .i64 0, .int .i64 0, .int .i64 0, .int .i64 0, .int .i64 0]) (.agg #[.int .i64 64, .int .i64 64, .int .i64 0, .int .i64 0, .int .i64 0, .int .i64 0, .int .i64 0, .int .i64 0])).run Try.prog w = .ok true w := fun _ => by kernel_rfl
  have q0 : ∀ w : World, (Op.equalIn 10000 57 (.agg #[.int .i64 0, .int .i64 0, .int .i64 0, .int .i64 0, .int .i64 0, .int .i64 0, .int .i64 0, .int .i64 0]) (.agg #[.int .i64 0, .int .i64 0, .int .i64 0, .int .i64 0, .int .i64 0, .int .i64 0, .int .i64 0, .int .i64 0])).run Try.prog w = .ok true w := fun _ => by kernel_rfl
  go_enter Try.func8, Try.ntmps8
  go_wp2_with fail
  refine (either_is _).mono ?_
  rintro e w1 ⟨⟨v1, rfl, hg1⟩, hb1⟩
  obtain ⟨a1, c1, hv1⟩ := hg1.len
  subst hv1
  have B1 := Lib.hid hb1; have G1 := Lib.hid hg1
  clear hb1 hg1
  go_wp2_with fail
  refine (weighs_yes eitherL _ _ G1.out either_ok).mono ?_
  rintro e w2 ⟨rfl, hb2⟩
  rw [wval_either]
  have B2 := Lib.hid (B1.out.trans (hb2.mono B1.out.size))
  have B3 : Hid (Below w.heap.size w (w2.alloc (.cells #[.int .i64 64, .int .i64 64, .int .i64 0, .int .i64 0, .int .i64 0, .int .i64 0, .int .i64 0, .int .i64 0] TW))) := Lib.hid (B2.out.alloc B2.out.size _)
  clear hb2 B1 G1 B2
  by_cases hok : TreeOk ts
  · have HOK := Lib.hid hok
    clear hok
    go_wp2_with fail
    generalize (w2.alloc (.cells #[.int .i64 64, .int .i64 64, .int .i64 0, .int .i64 0, .int .i64 0, .int .i64 0, .int .i64 0, .int .i64 0] TW)) = w3 at *
    refine (weighs_yes ts _ _ (HV.out.later B3.out) HOK.out).mono ?_
    rintro e w4 ⟨rfl, hb4⟩
    have B4 := Lib.hid (B3.out.trans (hb4.mono B3.out.size))
    have HC := Lib.hid (fun i (hi : i < 8) => crit_cut HOK.out hi)
    have hW : ∀ i, i < 8 → weigh ts i = critN ts i := fun i hi => weigh_crit HOK.out hi
    unfold WVal
    rw [hW 0 (by omega), hW 1 (by omega), hW 2 (by omega), hW 3 (by omega), hW 4 (by omega), hW 5 (by omega), hW 6 (by omega), hW 7 (by omega)]
    have hcb : ∀ i, 0 ≤ critN ts i ∧ critN ts i ≤ 256 := fun i => sumTo_ge 256 _
    have HCB := Lib.hid hcb
    have HCN : Hid (∀ i, critN ts i = sumTo 256 fun s => one (crit ts i s)) := Lib.hid (fun i => rfl)
    obtain ⟨X, hX⟩ : ∃ X, critN ts = X := ⟨_, rfl⟩
    rw [hX] at HC HCB HCN ⊢
    have C5 : Hid (CellsAt (w4.alloc (.cells #[.int .i64 (X 0), .int .i64 (X 1), .int .i64 (X 2), .int .i64 (X 3), .int .i64 (X 4), .int .i64 (X 5), .int .i64 (X 6), .int .i64 (X 7)] TW)) w4.heap.size [.int .i64 (X 0), .int .i64 (X 1), .int .i64 (X 2), .int .i64 (X 3), .int .i64 (X 4), .int .i64 (X 5), .int .i64 (X 6), .int .i64 (X 7)]) := Lib.hid (CellsAt.new w4 _ _ _ rfl)
    have B5 : Hid (Below w.heap.size w (w4.alloc (.cells #[.int .i64 (X 0), .int .i64 (X 1), .int .i64 (X 2), .int .i64 (X 3), .int .i64 (X 4), .int .i64 (X 5), .int .i64 (X 6), .int .i64 (X 7)] TW))) := Lib.hid (B4.out.alloc B4.out.size _)
    clear hb4 hW hX hcb B3
    go_wp2_with fail
    generalize (w4.alloc (.cells #[.int .i64 (X 0), .int .i64 (X 1), .int .i64 (X 2), .int .i64 (X 3), .int .i64 (X 4), .int .i64 (X 5), .int .i64 (X 6), .int .i64 (X 7)] TW)) = w5 at *
    refine (cuts_yes ts _ _ (HV.out.later B5.out) HOK.out).mono ?_
    rintro e w6 ⟨⟨v6, rfl, hi6⟩, hb6⟩
    have hA := cuts_anti HOK.out
    obtain ⟨L, hL⟩ : ∃ L, cutsL ts = L := ⟨_, rfl⟩
    rw [hL] at hi6 hA HC
    obtain ⟨a6, c6, hv6⟩ := hi6.len
    rw [u16s_len] at hv6
    subst hv6
    have I6 := Lib.hid hi6
    have lL := anti_len hA
    have HL6 : Hid (∀ c ∈ L, c < 65536) := Lib.hid (fun c hc => Nat.lt_trans (hA.1 c hc) (by decide))
    have C6 := Lib.hid (C5.out.call hb6)
    have B6 := Lib.hid (B5.out.trans (hb6.mono B5.out.size))
    clear hi6 hb6 hL hA C5 B5 B4
    go_wp2_with fail
    go_loopw [44] (fun i wr => (∃ k : Nat, k ≤ 8 ∧ i = .int .i64 k) ∧ Below w6.heap.size w6 wr) (fun i _ => 8 - (intOf i).toNat)
    case atStart => exact ⟨⟨0, by omega, rfl⟩, Below.refl _ _⟩
    case round =>
      obtain ⟨⟨k, hk, rfl⟩, hBr⟩ := hrel
      have HBR := Lib.hid hBr
      have zr := hBr.size
      by_cases hlt : k < 8
      · clear hBr
        rcases (by omega : k = 0 ∨ k = 1 ∨ k = 2 ∨ k = 3 ∨ k = 4 ∨ k = 5 ∨ k = 6 ∨ k = 7) with rfl | rfl | rfl | rfl | rfl | rfl | rfl | rfl
        · rw [show ((0 : Nat) : Int) = 0 from rfl]
          have P1 : Hid (CellsAt (wr.alloc (.cells #[.int .i64 0] 3)) wr.heap.size [.int .i64 0]) := Lib.hid (CellsAt.new wr _ _ _ rfl)
          have B7 : Hid (Below w6.heap.size w6 (wr.alloc (.cells #[.int .i64 0] 3))) := Lib.hid (HBR.out.alloc zr _)
          go_wp2_with fail
          generalize (wr.alloc (.cells #[.int .i64 0] 3)) = w7 at *
          go_loopw [10, 47] (fun n s wx => IRel ts 0 w7 n s wx) (fun _ s _ => 256 - (intOf s).toNat)
          case atStart => exact ⟨0, by omega, rfl, rfl, Below.refl _ _⟩
          case round =>
            obtain ⟨m, hm2, rfl, rfl, hB⟩ := hrel
            have HB := Lib.hid hB
            have zB := hB.size
            have hsb := sumTo_ge m (fun s => crit ts 0 s)
            by_cases hlt2 : m < 256
            · have e5 : (m : Int) < 256 := by omega
              have hsm : (sumTo (m + 1) fun s => one (crit ts 0 s)) = (sumTo m fun s => one (crit ts 0 s)) + one (crit ts 0 m) := rfl
              obtain ⟨q, hq⟩ : ∃ q, (sumTo m fun s => one (crit ts 0 s)) = q := ⟨_, rfl⟩
              rw [hq] at hsm hsb ⊢
              have HS := Lib.hid hsm
              have hcr : crit ts 0 m = (m.testBit 0 && topB ts (m ||| 1) && !topB ts (drop m 0)) := rfl
              have huw : IntKind.u16.wrap ((m : Int) + 1) = (m : Int) + 1 := IntWalk.u16_in _ (by omega)
              have hor : bits BinOp.or IntKind.u16 (m : Int) 1 = ((m ||| 1 : Nat) : Int) := or_u16 m 1 (by omega) (by omega)
              have hol : m ||| 1 < 256 := Nat.or_lt_two_pow (n := 8) hlt2 (by omega)
              have han : bits BinOp.andNot IntKind.u16 (m : Int) 1 = ((drop m 0 : Nat) : Int) := andNot_is (i := 0) (by omega) hlt2
              have hdl : drop m 0 < 256 := drop_lt hlt2
              have eb : (bits BinOp.and IntKind.u16 ((m : Int) / 1) 1 == 1) = m.testBit 0 := bit_is m 0 1 (by omega) rfl
              (try rw [Int.ediv_one] at eb)
              have p0 := (P1.out.call hB).at_ 0 rfl
              have pz := (P1.out.call hB).lt
              clear hB hq hsm
              go_wp2_with fail
              refine (cutsFails_yes ts (m ||| 1) _ _ (HV.out.later (B6.out.trans ((B7.out.trans (HB.out.mono B7.out.size)).mono B6.out.size))) HOK.out (by omega)).mono ?_
              rintro e w8 ⟨rfl, hb8⟩
              have B8 := Lib.hid (HB.out.trans (hb8.mono zB))
              have p1 := (P1.out.call B8.out).at_ 0 rfl
              have pz1 := (P1.out.call B8.out).lt
              clear hb8 p0 pz
              go_wp2_with fail
              refine (cutsFails_yes ts (drop m 0) _ _ (HV.out.later (B6.out.trans ((B7.out.trans (B8.out.mono B7.out.size)).mono B6.out.size))) HOK.out (by omega)).mono ?_
              rintro e w9 ⟨rfl, hb9⟩
              have B9 := Lib.hid (B8.out.trans (hb9.mono B8.out.size))
              have p2 := (P1.out.call B9.out).at_ 0 rfl
              have pz2 := (P1.out.call B9.out).lt
              clear hb9 p1 pz1 hor han
              obtain ⟨t1, ht1⟩ : ∃ t, topB ts (m ||| 1) = t := ⟨_, rfl⟩
              obtain ⟨t2, ht2⟩ : ∃ t, topB ts (drop m 0) = t := ⟨_, rfl⟩
              obtain ⟨t3, ht3⟩ : ∃ t, m.testBit 0 = t := ⟨_, rfl⟩
              rw [ht1, ht2, ht3] at hcr
              rw [ht1, ht2]
              rw [ht3] at eb
              clear ht1 ht2 ht3
              have hcr2 : crit ts 0 m = (t3 && t1 && !t2) := hcr
              clear hcr
              rw [hcr2] at HS
              clear hcr2
              cases t3
              rotate_left
              cases t1
              rotate_left
              cases t2
              all_goals go_wp2
              all_goals go_roundw
              all_goals first
                | (case rel => exact ⟨m + 1, by omega, by go_num, by rw [HS.out]; first | rfl | exact congrArg _ (Int.add_zero q).symm | (simp [one]), B9.out⟩)
                | (case measure => simp [intOf]; omega)
            · obtain rfl : m = 256 := by omega
              rw [← HCN.out]
              rw [show ((256 : Nat) : Int) = 256 from rfl]
              have B8 := Lib.hid (B7.out.trans (hB.mono B7.out.size))
              have PP := Lib.hid (P1.out.call hB)
              have p0 := PP.out.at_ 0 rfl
              have pz := PP.out.lt
              have HXC := Lib.hid (HC.out 0 (by omega))
              have hxb := HCB.out 0
              have hxx := (C6.out.call B8.out).at_ 0 rfl
              have hxz := (C6.out.call B8.out).lt
              clear hB hsb
              go_wp2_with fail
              refine (hasBit_is L 0 _ _ _ (I6.out.later B8.out (Nat.le_refl _)) (by omega) HL6.out p0 (by omega)).mono ?_
              rintro e w9 ⟨rfl, hb9⟩
              rw [show anyBit 0 L = decide (0 < X 0) from HXC.out]
              have B9 := Lib.hid (B8.out.trans (hb9.mono B8.out.size))
              have p2 := (PP.out.call hb9).at_ 0 rfl
              have pz2 := (PP.out.call hb9).lt
              have hx2 := (C6.out.call B9.out).at_ 0 rfl
              have hz2 := (C6.out.call B9.out).lt
              clear hb9 p0 pz hxx hxz HXC
              by_cases hpos : 0 < X 0
              · rw [decide_eq_true hpos]
                have hp2 : X 0 > 0 := hpos
                go_wp2
                go_roundw
                case rel => exact ⟨⟨0 + 1, by omega, by go_num⟩, B9.out⟩
                case measure => simp [intOf]
              · rw [decide_eq_false hpos]
                have hp2 : ¬ X 0 > 0 := hpos
                go_wp2
                go_roundw
                case rel => exact ⟨⟨0 + 1, by omega, by go_num⟩, B9.out⟩
                case measure => simp [intOf]
        · rw [show ((1 : Nat) : Int) = 1 from rfl]
          have P1 : Hid (CellsAt (wr.alloc (.cells #[.int .i64 1] 3)) wr.heap.size [.int .i64 1]) := Lib.hid (CellsAt.new wr _ _ _ rfl)
          have B7 : Hid (Below w6.heap.size w6 (wr.alloc (.cells #[.int .i64 1] 3))) := Lib.hid (HBR.out.alloc zr _)
          go_wp2_with fail
          generalize (wr.alloc (.cells #[.int .i64 1] 3)) = w7 at *
          go_loopw [10, 47] (fun n s wx => IRel ts 1 w7 n s wx) (fun _ s _ => 256 - (intOf s).toNat)
          case atStart => exact ⟨0, by omega, rfl, rfl, Below.refl _ _⟩
          case round =>
            obtain ⟨m, hm2, rfl, rfl, hB⟩ := hrel
            have HB := Lib.hid hB
            have zB := hB.size
            have hsb := sumTo_ge m (fun s => crit ts 1 s)
            by_cases hlt2 : m < 256
            · have e5 : (m : Int) < 256 := by omega
              have hsm : (sumTo (m + 1) fun s => one (crit ts 1 s)) = (sumTo m fun s => one (crit ts 1 s)) + one (crit ts 1 m) := rfl
              obtain ⟨q, hq⟩ : ∃ q, (sumTo m fun s => one (crit ts 1 s)) = q := ⟨_, rfl⟩
              rw [hq] at hsm hsb ⊢
              have HS := Lib.hid hsm
              have hcr : crit ts 1 m = (m.testBit 1 && topB ts (m ||| 2) && !topB ts (drop m 1)) := rfl
              have huw : IntKind.u16.wrap ((m : Int) + 1) = (m : Int) + 1 := IntWalk.u16_in _ (by omega)
              have hor : bits BinOp.or IntKind.u16 (m : Int) 2 = ((m ||| 2 : Nat) : Int) := or_u16 m 2 (by omega) (by omega)
              have hol : m ||| 2 < 256 := Nat.or_lt_two_pow (n := 8) hlt2 (by omega)
              have han : bits BinOp.andNot IntKind.u16 (m : Int) 2 = ((drop m 1 : Nat) : Int) := andNot_is (i := 1) (by omega) hlt2
              have hdl : drop m 1 < 256 := drop_lt hlt2
              have eb : (bits BinOp.and IntKind.u16 ((m : Int) / 2) 1 == 1) = m.testBit 1 := bit_is m 1 2 (by omega) rfl
              (try rw [Int.ediv_one] at eb)
              have p0 := (P1.out.call hB).at_ 0 rfl
              have pz := (P1.out.call hB).lt
              clear hB hq hsm
              go_wp2_with fail
              refine (cutsFails_yes ts (m ||| 2) _ _ (HV.out.later (B6.out.trans ((B7.out.trans (HB.out.mono B7.out.size)).mono B6.out.size))) HOK.out (by omega)).mono ?_
              rintro e w8 ⟨rfl, hb8⟩
              have B8 := Lib.hid (HB.out.trans (hb8.mono zB))
              have p1 := (P1.out.call B8.out).at_ 0 rfl
              have pz1 := (P1.out.call B8.out).lt
              clear hb8 p0 pz
              go_wp2_with fail
              refine (cutsFails_yes ts (drop m 1) _ _ (HV.out.later (B6.out.trans ((B7.out.trans (B8.out.mono B7.out.size)).mono B6.out.size))) HOK.out (by omega)).mono ?_
              rintro e w9 ⟨rfl, hb9⟩
              have B9 := Lib.hid (B8.out.trans (hb9.mono B8.out.size))
              have p2 := (P1.out.call B9.out).at_ 0 rfl
              have pz2 := (P1.out.call B9.out).lt
              clear hb9 p1 pz1 hor han
              obtain ⟨t1, ht1⟩ : ∃ t, topB ts (m ||| 2) = t := ⟨_, rfl⟩
              obtain ⟨t2, ht2⟩ : ∃ t, topB ts (drop m 1) = t := ⟨_, rfl⟩
              obtain ⟨t3, ht3⟩ : ∃ t, m.testBit 1 = t := ⟨_, rfl⟩
              rw [ht1, ht2, ht3] at hcr
              rw [ht1, ht2]
              rw [ht3] at eb
              clear ht1 ht2 ht3
              have hcr2 : crit ts 1 m = (t3 && t1 && !t2) := hcr
              clear hcr
              rw [hcr2] at HS
              clear hcr2
              cases t3
              rotate_left
              cases t1
              rotate_left
              cases t2
              all_goals go_wp2
              all_goals go_roundw
              all_goals first
                | (case rel => exact ⟨m + 1, by omega, by go_num, by rw [HS.out]; first | rfl | exact congrArg _ (Int.add_zero q).symm | (simp [one]), B9.out⟩)
                | (case measure => simp [intOf]; omega)
            · obtain rfl : m = 256 := by omega
              rw [← HCN.out]
              rw [show ((256 : Nat) : Int) = 256 from rfl]
              have B8 := Lib.hid (B7.out.trans (hB.mono B7.out.size))
              have PP := Lib.hid (P1.out.call hB)
              have p0 := PP.out.at_ 0 rfl
              have pz := PP.out.lt
              have HXC := Lib.hid (HC.out 1 (by omega))
              have hxb := HCB.out 1
              have hxx := (C6.out.call B8.out).at_ 1 rfl
              have hxz := (C6.out.call B8.out).lt
              clear hB hsb
              go_wp2_with fail
              refine (hasBit_is L 1 _ _ _ (I6.out.later B8.out (Nat.le_refl _)) (by omega) HL6.out p0 (by omega)).mono ?_
              rintro e w9 ⟨rfl, hb9⟩
              rw [show anyBit 1 L = decide (0 < X 1) from HXC.out]
              have B9 := Lib.hid (B8.out.trans (hb9.mono B8.out.size))
              have p2 := (PP.out.call hb9).at_ 0 rfl
              have pz2 := (PP.out.call hb9).lt
              have hx2 := (C6.out.call B9.out).at_ 1 rfl
              have hz2 := (C6.out.call B9.out).lt
              clear hb9 p0 pz hxx hxz HXC
              by_cases hpos : 0 < X 1
              · rw [decide_eq_true hpos]
                have hp2 : X 1 > 0 := hpos
                go_wp2
                go_roundw
                case rel => exact ⟨⟨1 + 1, by omega, by go_num⟩, B9.out⟩
                case measure => simp [intOf]
              · rw [decide_eq_false hpos]
                have hp2 : ¬ X 1 > 0 := hpos
                go_wp2
                go_roundw
                case rel => exact ⟨⟨1 + 1, by omega, by go_num⟩, B9.out⟩
                case measure => simp [intOf]
        · rw [show ((2 : Nat) : Int) = 2 from rfl]
          have P1 : Hid (CellsAt (wr.alloc (.cells #[.int .i64 2] 3)) wr.heap.size [.int .i64 2]) := Lib.hid (CellsAt.new wr _ _ _ rfl)
          have B7 : Hid (Below w6.heap.size w6 (wr.alloc (.cells #[.int .i64 2] 3))) := Lib.hid (HBR.out.alloc zr _)
          go_wp2_with fail
          generalize (wr.alloc (.cells #[.int .i64 2] 3)) = w7 at *
          go_loopw [10, 47] (fun n s wx => IRel ts 2 w7 n s wx) (fun _ s _ => 256 - (intOf s).toNat)
          case atStart => exact ⟨0, by omega, rfl, rfl, Below.refl _ _⟩
          case round =>
            obtain ⟨m, hm2, rfl, rfl, hB⟩ := hrel
            have HB := Lib.hid hB
            have zB := hB.size
            have hsb := sumTo_ge m (fun s => crit ts 2 s)
            by_cases hlt2 : m < 256
            · have e5 : (m : Int) < 256 := by omega
              have hsm : (sumTo (m + 1) fun s => one (crit ts 2 s)) = (sumTo m fun s => one (crit ts 2 s)) + one (crit ts 2 m) := rfl
              obtain ⟨q, hq⟩ : ∃ q, (sumTo m fun s => one (crit ts 2 s)) = q := ⟨_, rfl⟩
              rw [hq] at hsm hsb ⊢
              have HS := Lib.hid hsm
              have hcr : crit ts 2 m = (m.testBit 2 && topB ts (m ||| 4) && !topB ts (drop m 2)) := rfl
              have huw : IntKind.u16.wrap ((m : Int) + 1) = (m : Int) + 1 := IntWalk.u16_in _ (by omega)
              have hor : bits BinOp.or IntKind.u16 (m : Int) 4 = ((m ||| 4 : Nat) : Int) := or_u16 m 4 (by omega) (by omega)
              have hol : m ||| 4 < 256 := Nat.or_lt_two_pow (n := 8) hlt2 (by omega)
              have han : bits BinOp.andNot IntKind.u16 (m : Int) 4 = ((drop m 2 : Nat) : Int) := andNot_is (i := 2) (by omega) hlt2
              have hdl : drop m 2 < 256 := drop_lt hlt2
              have eb : (bits BinOp.and IntKind.u16 ((m : Int) / 4) 1 == 1) = m.testBit 2 := bit_is m 2 4 (by omega) rfl
              (try rw [Int.ediv_one] at eb)
              have p0 := (P1.out.call hB).at_ 0 rfl
              have pz := (P1.out.call hB).lt
              clear hB hq hsm
              go_wp2_with fail
              refine (cutsFails_yes ts (m ||| 4) _ _ (HV.out.later (B6.out.trans ((B7.out.trans (HB.out.mono B7.out.size)).mono B6.out.size))) HOK.out (by omega)).mono ?_
              rintro e w8 ⟨rfl, hb8⟩
              have B8 := Lib.hid (HB.out.trans (hb8.mono zB))
              have p1 := (P1.out.call B8.out).at_ 0 rfl
              have pz1 := (P1.out.call B8.out).lt
              clear hb8 p0 pz
              go_wp2_with fail
              refine (cutsFails_yes ts (drop m 2) _ _ (HV.out.later (B6.out.trans ((B7.out.trans (B8.out.mono B7.out.size)).mono B6.out.size))) HOK.out (by omega)).mono ?_
              rintro e w9 ⟨rfl, hb9⟩
              have B9 := Lib.hid (B8.out.trans (hb9.mono B8.out.size))
              have p2 := (P1.out.call B9.out).at_ 0 rfl
              have pz2 := (P1.out.call B9.out).lt
              clear hb9 p1 pz1 hor han
              obtain ⟨t1, ht1⟩ : ∃ t, topB ts (m ||| 4) = t := ⟨_, rfl⟩
              obtain ⟨t2, ht2⟩ : ∃ t, topB ts (drop m 2) = t := ⟨_, rfl⟩
              obtain ⟨t3, ht3⟩ : ∃ t, m.testBit 2 = t := ⟨_, rfl⟩
              rw [ht1, ht2, ht3] at hcr
              rw [ht1, ht2]
              rw [ht3] at eb
              clear ht1 ht2 ht3
              have hcr2 : crit ts 2 m = (t3 && t1 && !t2) := hcr
              clear hcr
              rw [hcr2] at HS
              clear hcr2
              cases t3
              rotate_left
              cases t1
              rotate_left
              cases t2
              all_goals go_wp2
              all_goals go_roundw
              all_goals first
                | (case rel => exact ⟨m + 1, by omega, by go_num, by rw [HS.out]; first | rfl | exact congrArg _ (Int.add_zero q).symm | (simp [one]), B9.out⟩)
                | (case measure => simp [intOf]; omega)
            · obtain rfl : m = 256 := by omega
              rw [← HCN.out]
              rw [show ((256 : Nat) : Int) = 256 from rfl]
              have B8 := Lib.hid (B7.out.trans (hB.mono B7.out.size))
              have PP := Lib.hid (P1.out.call hB)
              have p0 := PP.out.at_ 0 rfl
              have pz := PP.out.lt
              have HXC := Lib.hid (HC.out 2 (by omega))
              have hxb := HCB.out 2
              have hxx := (C6.out.call B8.out).at_ 2 rfl
              have hxz := (C6.out.call B8.out).lt
              clear hB hsb
              go_wp2_with fail
              refine (hasBit_is L 2 _ _ _ (I6.out.later B8.out (Nat.le_refl _)) (by omega) HL6.out p0 (by omega)).mono ?_
              rintro e w9 ⟨rfl, hb9⟩
              rw [show anyBit 2 L = decide (0 < X 2) from HXC.out]
              have B9 := Lib.hid (B8.out.trans (hb9.mono B8.out.size))
              have p2 := (PP.out.call hb9).at_ 0 rfl
              have pz2 := (PP.out.call hb9).lt
              have hx2 := (C6.out.call B9.out).at_ 2 rfl
              have hz2 := (C6.out.call B9.out).lt
              clear hb9 p0 pz hxx hxz HXC
              by_cases hpos : 0 < X 2
              · rw [decide_eq_true hpos]
                have hp2 : X 2 > 0 := hpos
                go_wp2
                go_roundw
                case rel => exact ⟨⟨2 + 1, by omega, by go_num⟩, B9.out⟩
                case measure => simp [intOf]
              · rw [decide_eq_false hpos]
                have hp2 : ¬ X 2 > 0 := hpos
                go_wp2
                go_roundw
                case rel => exact ⟨⟨2 + 1, by omega, by go_num⟩, B9.out⟩
                case measure => simp [intOf]
        · rw [show ((3 : Nat) : Int) = 3 from rfl]
          have P1 : Hid (CellsAt (wr.alloc (.cells #[.int .i64 3] 3)) wr.heap.size [.int .i64 3]) := Lib.hid (CellsAt.new wr _ _ _ rfl)
          have B7 : Hid (Below w6.heap.size w6 (wr.alloc (.cells #[.int .i64 3] 3))) := Lib.hid (HBR.out.alloc zr _)
          go_wp2_with fail
          generalize (wr.alloc (.cells #[.int .i64 3] 3)) = w7 at *
          go_loopw [10, 47] (fun n s wx => IRel ts 3 w7 n s wx) (fun _ s _ => 256 - (intOf s).toNat)
          case atStart => exact ⟨0, by omega, rfl, rfl, Below.refl _ _⟩
          case round =>
            obtain ⟨m, hm2, rfl, rfl, hB⟩ := hrel
            have HB := Lib.hid hB
            have zB := hB.size
            have hsb := sumTo_ge m (fun s => crit ts 3 s)
            by_cases hlt2 : m < 256
            · have e5 : (m : Int) < 256 := by omega
              have hsm : (sumTo (m + 1) fun s => one (crit ts 3 s)) = (sumTo m fun s => one (crit ts 3 s)) + one (crit ts 3 m) := rfl
              obtain ⟨q, hq⟩ : ∃ q, (sumTo m fun s => one (crit ts 3 s)) = q := ⟨_, rfl⟩
              rw [hq] at hsm hsb ⊢
              have HS := Lib.hid hsm
              have hcr : crit ts 3 m = (m.testBit 3 && topB ts (m ||| 8) && !topB ts (drop m 3)) := rfl
              have huw : IntKind.u16.wrap ((m : Int) + 1) = (m : Int) + 1 := IntWalk.u16_in _ (by omega)
              have hor : bits BinOp.or IntKind.u16 (m : Int) 8 = ((m ||| 8 : Nat) : Int) := or_u16 m 8 (by omega) (by omega)
              have hol : m ||| 8 < 256 := Nat.or_lt_two_pow (n := 8) hlt2 (by omega)
              have han : bits BinOp.andNot IntKind.u16 (m : Int) 8 = ((drop m 3 : Nat) : Int) := andNot_is (i := 3) (by omega) hlt2
              have hdl : drop m 3 < 256 := drop_lt hlt2
              have eb : (bits BinOp.and IntKind.u16 ((m : Int) / 8) 1 == 1) = m.testBit 3 := bit_is m 3 8 (by omega) rfl
              (try rw [Int.ediv_one] at eb)
              have p0 := (P1.out.call hB).at_ 0 rfl
              have pz := (P1.out.call hB).lt
              clear hB hq hsm
              go_wp2_with fail
              refine (cutsFails_yes ts (m ||| 8) _ _ (HV.out.later (B6.out.trans ((B7.out.trans (HB.out.mono B7.out.size)).mono B6.out.size))) HOK.out (by omega)).mono ?_
              rintro e w8 ⟨rfl, hb8⟩
              have B8 := Lib.hid (HB.out.trans (hb8.mono zB))
              have p1 := (P1.out.call B8.out).at_ 0 rfl
              have pz1 := (P1.out.call B8.out).lt
              clear hb8 p0 pz
              go_wp2_with fail
              refine (cutsFails_yes ts (drop m 3) _ _ (HV.out.later (B6.out.trans ((B7.out.trans (B8.out.mono B7.out.size)).mono B6.out.size))) HOK.out (by omega)).mono ?_
              rintro e w9 ⟨rfl, hb9⟩
              have B9 := Lib.hid (B8.out.trans (hb9.mono B8.out.size))
              have p2 := (P1.out.call B9.out).at_ 0 rfl
              have pz2 := (P1.out.call B9.out).lt
              clear hb9 p1 pz1 hor han
              obtain ⟨t1, ht1⟩ : ∃ t, topB ts (m ||| 8) = t := ⟨_, rfl⟩
              obtain ⟨t2, ht2⟩ : ∃ t, topB ts (drop m 3) = t := ⟨_, rfl⟩
              obtain ⟨t3, ht3⟩ : ∃ t, m.testBit 3 = t := ⟨_, rfl⟩
              rw [ht1, ht2, ht3] at hcr
              rw [ht1, ht2]
              rw [ht3] at eb
              clear ht1 ht2 ht3
              have hcr2 : crit ts 3 m = (t3 && t1 && !t2) := hcr
              clear hcr
              rw [hcr2] at HS
              clear hcr2
              cases t3
              rotate_left
              cases t1
              rotate_left
              cases t2
              all_goals go_wp2
              all_goals go_roundw
              all_goals first
                | (case rel => exact ⟨m + 1, by omega, by go_num, by rw [HS.out]; first | rfl | exact congrArg _ (Int.add_zero q).symm | (simp [one]), B9.out⟩)
                | (case measure => simp [intOf]; omega)
            · obtain rfl : m = 256 := by omega
              rw [← HCN.out]
              rw [show ((256 : Nat) : Int) = 256 from rfl]
              have B8 := Lib.hid (B7.out.trans (hB.mono B7.out.size))
              have PP := Lib.hid (P1.out.call hB)
              have p0 := PP.out.at_ 0 rfl
              have pz := PP.out.lt
              have HXC := Lib.hid (HC.out 3 (by omega))
              have hxb := HCB.out 3
              have hxx := (C6.out.call B8.out).at_ 3 rfl
              have hxz := (C6.out.call B8.out).lt
              clear hB hsb
              go_wp2_with fail
              refine (hasBit_is L 3 _ _ _ (I6.out.later B8.out (Nat.le_refl _)) (by omega) HL6.out p0 (by omega)).mono ?_
              rintro e w9 ⟨rfl, hb9⟩
              rw [show anyBit 3 L = decide (0 < X 3) from HXC.out]
              have B9 := Lib.hid (B8.out.trans (hb9.mono B8.out.size))
              have p2 := (PP.out.call hb9).at_ 0 rfl
              have pz2 := (PP.out.call hb9).lt
              have hx2 := (C6.out.call B9.out).at_ 3 rfl
              have hz2 := (C6.out.call B9.out).lt
              clear hb9 p0 pz hxx hxz HXC
              by_cases hpos : 0 < X 3
              · rw [decide_eq_true hpos]
                have hp2 : X 3 > 0 := hpos
                go_wp2
                go_roundw
                case rel => exact ⟨⟨3 + 1, by omega, by go_num⟩, B9.out⟩
                case measure => simp [intOf]
              · rw [decide_eq_false hpos]
                have hp2 : ¬ X 3 > 0 := hpos
                go_wp2
                go_roundw
                case rel => exact ⟨⟨3 + 1, by omega, by go_num⟩, B9.out⟩
                case measure => simp [intOf]
        · rw [show ((4 : Nat) : Int) = 4 from rfl]
          have P1 : Hid (CellsAt (wr.alloc (.cells #[.int .i64 4] 3)) wr.heap.size [.int .i64 4]) := Lib.hid (CellsAt.new wr _ _ _ rfl)
          have B7 : Hid (Below w6.heap.size w6 (wr.alloc (.cells #[.int .i64 4] 3))) := Lib.hid (HBR.out.alloc zr _)
          go_wp2_with fail
          generalize (wr.alloc (.cells #[.int .i64 4] 3)) = w7 at *
          go_loopw [10, 47] (fun n s wx => IRel ts 4 w7 n s wx) (fun _ s _ => 256 - (intOf s).toNat)
          case atStart => exact ⟨0, by omega, rfl, rfl, Below.refl _ _⟩
          case round =>
            obtain ⟨m, hm2, rfl, rfl, hB⟩ := hrel
            have HB := Lib.hid hB
            have zB := hB.size
            have hsb := sumTo_ge m (fun s => crit ts 4 s)
            by_cases hlt2 : m < 256
            · have e5 : (m : Int) < 256 := by omega
              have hsm : (sumTo (m + 1) fun s => one (crit ts 4 s)) = (sumTo m fun s => one (crit ts 4 s)) + one (crit ts 4 m) := rfl
              obtain ⟨q, hq⟩ : ∃ q, (sumTo m fun s => one (crit ts 4 s)) = q := ⟨_, rfl⟩
              rw [hq] at hsm hsb ⊢
              have HS := Lib.hid hsm
              have hcr : crit ts 4 m = (m.testBit 4 && topB ts (m ||| 16) && !topB ts (drop m 4)) := rfl
              have huw : IntKind.u16.wrap ((m : Int) + 1) = (m : Int) + 1 := IntWalk.u16_in _ (by omega)
              have hor : bits BinOp.or IntKind.u16 (m : Int) 16 = ((m ||| 16 : Nat) : Int) := or_u16 m 16 (by omega) (by omega)
              have hol : m ||| 16 < 256 := Nat.or_lt_two_pow (n := 8) hlt2 (by omega)
              have han : bits BinOp.andNot IntKind.u16 (m : Int) 16 = ((drop m 4 : Nat) : Int) := andNot_is (i := 4) (by omega) hlt2
              have hdl : drop m 4 < 256 := drop_lt hlt2
              have eb : (bits BinOp.and IntKind.u16 ((m : Int) / 16) 1 == 1) = m.testBit 4 := bit_is m 4 16 (by omega) rfl
              (try rw [Int.ediv_one] at eb)
              have p0 := (P1.out.call hB).at_ 0 rfl
              have pz := (P1.out.call hB).lt
              clear hB hq hsm
              go_wp2_with fail
              refine (cutsFails_yes ts (m ||| 16) _ _ (HV.out.later (B6.out.trans ((B7.out.trans (HB.out.mono B7.out.size)).mono B6.out.size))) HOK.out (by omega)).mono ?_
              rintro e w8 ⟨rfl, hb8⟩
              have B8 := Lib.hid (HB.out.trans (hb8.mono zB))
              have p1 := (P1.out.call B8.out).at_ 0 rfl
              have pz1 := (P1.out.call B8.out).lt
              clear hb8 p0 pz
              go_wp2_with fail
              refine (cutsFails_yes ts (drop m 4) _ _ (HV.out.later (B6.out.trans ((B7.out.trans (B8.out.mono B7.out.size)).mono B6.out.size))) HOK.out (by omega)).mono ?_
              rintro e w9 ⟨rfl, hb9⟩
              have B9 := Lib.hid (B8.out.trans (hb9.mono B8.out.size))
              have p2 := (P1.out.call B9.out).at_ 0 rfl
              have pz2 := (P1.out.call B9.out).lt
              clear hb9 p1 pz1 hor han
              obtain ⟨t1, ht1⟩ : ∃ t, topB ts (m ||| 16) = t := ⟨_, rfl⟩
              obtain ⟨t2, ht2⟩ : ∃ t, topB ts (drop m 4) = t := ⟨_, rfl⟩
              obtain ⟨t3, ht3⟩ : ∃ t, m.testBit 4 = t := ⟨_, rfl⟩
              rw [ht1, ht2, ht3] at hcr
              rw [ht1, ht2]
              rw [ht3] at eb
              clear ht1 ht2 ht3
              have hcr2 : crit ts 4 m = (t3 && t1 && !t2) := hcr
              clear hcr
              rw [hcr2] at HS
              clear hcr2
              cases t3
              rotate_left
              cases t1
              rotate_left
              cases t2
              all_goals go_wp2
              all_goals go_roundw
              all_goals first
                | (case rel => exact ⟨m + 1, by omega, by go_num, by rw [HS.out]; first | rfl | exact congrArg _ (Int.add_zero q).symm | (simp [one]), B9.out⟩)
                | (case measure => simp [intOf]; omega)
            · obtain rfl : m = 256 := by omega
              rw [← HCN.out]
              rw [show ((256 : Nat) : Int) = 256 from rfl]
              have B8 := Lib.hid (B7.out.trans (hB.mono B7.out.size))
              have PP := Lib.hid (P1.out.call hB)
              have p0 := PP.out.at_ 0 rfl
              have pz := PP.out.lt
              have HXC := Lib.hid (HC.out 4 (by omega))
              have hxb := HCB.out 4
              have hxx := (C6.out.call B8.out).at_ 4 rfl
              have hxz := (C6.out.call B8.out).lt
              clear hB hsb
              go_wp2_with fail
              refine (hasBit_is L 4 _ _ _ (I6.out.later B8.out (Nat.le_refl _)) (by omega) HL6.out p0 (by omega)).mono ?_
              rintro e w9 ⟨rfl, hb9⟩
              rw [show anyBit 4 L = decide (0 < X 4) from HXC.out]
              have B9 := Lib.hid (B8.out.trans (hb9.mono B8.out.size))
              have p2 := (PP.out.call hb9).at_ 0 rfl
              have pz2 := (PP.out.call hb9).lt
              have hx2 := (C6.out.call B9.out).at_ 4 rfl
              have hz2 := (C6.out.call B9.out).lt
              clear hb9 p0 pz hxx hxz HXC
              by_cases hpos : 0 < X 4
              · rw [decide_eq_true hpos]
                have hp2 : X 4 > 0 := hpos
                go_wp2
                go_roundw
                case rel => exact ⟨⟨4 + 1, by omega, by go_num⟩, B9.out⟩
                case measure => simp [intOf]
              · rw [decide_eq_false hpos]
                have hp2 : ¬ X 4 > 0 := hpos
                go_wp2
                go_roundw
                case rel => exact ⟨⟨4 + 1, by omega, by go_num⟩, B9.out⟩
                case measure => simp [intOf]
        · rw [show ((5 : Nat) : Int) = 5 from rfl]
          have P1 : Hid (CellsAt (wr.alloc (.cells #[.int .i64 5] 3)) wr.heap.size [.int .i64 5]) := Lib.hid (CellsAt.new wr _ _ _ rfl)
          have B7 : Hid (Below w6.heap.size w6 (wr.alloc (.cells #[.int .i64 5] 3))) := Lib.hid (HBR.out.alloc zr _)
          go_wp2_with fail
          generalize (wr.alloc (.cells #[.int .i64 5] 3)) = w7 at *
          go_loopw [10, 47] (fun n s wx => IRel ts 5 w7 n s wx) (fun _ s _ => 256 - (intOf s).toNat)
          case atStart => exact ⟨0, by omega, rfl, rfl, Below.refl _ _⟩
          case round =>
            obtain ⟨m, hm2, rfl, rfl, hB⟩ := hrel
            have HB := Lib.hid hB
            have zB := hB.size
            have hsb := sumTo_ge m (fun s => crit ts 5 s)
            by_cases hlt2 : m < 256
            · have e5 : (m : Int) < 256 := by omega
              have hsm : (sumTo (m + 1) fun s => one (crit ts 5 s)) = (sumTo m fun s => one (crit ts 5 s)) + one (crit ts 5 m) := rfl
              obtain ⟨q, hq⟩ : ∃ q, (sumTo m fun s => one (crit ts 5 s)) = q := ⟨_, rfl⟩
              rw [hq] at hsm hsb ⊢
              have HS := Lib.hid hsm
              have hcr : crit ts 5 m = (m.testBit 5 && topB ts (m ||| 32) && !topB ts (drop m 5)) := rfl
              have huw : IntKind.u16.wrap ((m : Int) + 1) = (m : Int) + 1 := IntWalk.u16_in _ (by omega)
              have hor : bits BinOp.or IntKind.u16 (m : Int) 32 = ((m ||| 32 : Nat) : Int) := or_u16 m 32 (by omega) (by omega)
              have hol : m ||| 32 < 256 := Nat.or_lt_two_pow (n := 8) hlt2 (by omega)
              have han : bits BinOp.andNot IntKind.u16 (m : Int) 32 = ((drop m 5 : Nat) : Int) := andNot_is (i := 5) (by omega) hlt2
              have hdl : drop m 5 < 256 := drop_lt hlt2
              have eb : (bits BinOp.and IntKind.u16 ((m : Int) / 32) 1 == 1) = m.testBit 5 := bit_is m 5 32 (by omega) rfl
              (try rw [Int.ediv_one] at eb)
              have p0 := (P1.out.call hB).at_ 0 rfl
              have pz := (P1.out.call hB).lt
              clear hB hq hsm
              go_wp2_with fail
              refine (cutsFails_yes ts (m ||| 32) _ _ (HV.out.later (B6.out.trans ((B7.out.trans (HB.out.mono B7.out.size)).mono B6.out.size))) HOK.out (by omega)).mono ?_
              rintro e w8 ⟨rfl, hb8⟩
              have B8 := Lib.hid (HB.out.trans (hb8.mono zB))
              have p1 := (P1.out.call B8.out).at_ 0 rfl
              have pz1 := (P1.out.call B8.out).lt
              clear hb8 p0 pz
              go_wp2_with fail
              refine (cutsFails_yes ts (drop m 5) _ _ (HV.out.later (B6.out.trans ((B7.out.trans (B8.out.mono B7.out.size)).mono B6.out.size))) HOK.out (by omega)).mono ?_
              rintro e w9 ⟨rfl, hb9⟩
              have B9 := Lib.hid (B8.out.trans (hb9.mono B8.out.size))
              have p2 := (P1.out.call B9.out).at_ 0 rfl
              have pz2 := (P1.out.call B9.out).lt
              clear hb9 p1 pz1 hor han
              obtain ⟨t1, ht1⟩ : ∃ t, topB ts (m ||| 32) = t := ⟨_, rfl⟩
              obtain ⟨t2, ht2⟩ : ∃ t, topB ts (drop m 5) = t := ⟨_, rfl⟩
              obtain ⟨t3, ht3⟩ : ∃ t, m.testBit 5 = t := ⟨_, rfl⟩
              rw [ht1, ht2, ht3] at hcr
              rw [ht1, ht2]
              rw [ht3] at eb
              clear ht1 ht2 ht3
              have hcr2 : crit ts 5 m = (t3 && t1 && !t2) := hcr
              clear hcr
              rw [hcr2] at HS
              clear hcr2
              cases t3
              rotate_left
              cases t1
              rotate_left
              cases t2
              all_goals go_wp2
              all_goals go_roundw
              all_goals first
                | (case rel => exact ⟨m + 1, by omega, by go_num, by rw [HS.out]; first | rfl | exact congrArg _ (Int.add_zero q).symm | (simp [one]), B9.out⟩)
                | (case measure => simp [intOf]; omega)
            · obtain rfl : m = 256 := by omega
              rw [← HCN.out]
              rw [show ((256 : Nat) : Int) = 256 from rfl]
              have B8 := Lib.hid (B7.out.trans (hB.mono B7.out.size))
              have PP := Lib.hid (P1.out.call hB)
              have p0 := PP.out.at_ 0 rfl
              have pz := PP.out.lt
              have HXC := Lib.hid (HC.out 5 (by omega))
              have hxb := HCB.out 5
              have hxx := (C6.out.call B8.out).at_ 5 rfl
              have hxz := (C6.out.call B8.out).lt
              clear hB hsb
              go_wp2_with fail
              refine (hasBit_is L 5 _ _ _ (I6.out.later B8.out (Nat.le_refl _)) (by omega) HL6.out p0 (by omega)).mono ?_
              rintro e w9 ⟨rfl, hb9⟩
              rw [show anyBit 5 L = decide (0 < X 5) from HXC.out]
              have B9 := Lib.hid (B8.out.trans (hb9.mono B8.out.size))
              have p2 := (PP.out.call hb9).at_ 0 rfl
              have pz2 := (PP.out.call hb9).lt
              have hx2 := (C6.out.call B9.out).at_ 5 rfl
              have hz2 := (C6.out.call B9.out).lt
              clear hb9 p0 pz hxx hxz HXC
              by_cases hpos : 0 < X 5
              · rw [decide_eq_true hpos]
                have hp2 : X 5 > 0 := hpos
                go_wp2
                go_roundw
                case rel => exact ⟨⟨5 + 1, by omega, by go_num⟩, B9.out⟩
                case measure => simp [intOf]
              · rw [decide_eq_false hpos]
                have hp2 : ¬ X 5 > 0 := hpos
                go_wp2
                go_roundw
                case rel => exact ⟨⟨5 + 1, by omega, by go_num⟩, B9.out⟩
                case measure => simp [intOf]
        · rw [show ((6 : Nat) : Int) = 6 from rfl]
          have P1 : Hid (CellsAt (wr.alloc (.cells #[.int .i64 6] 3)) wr.heap.size [.int .i64 6]) := Lib.hid (CellsAt.new wr _ _ _ rfl)
          have B7 : Hid (Below w6.heap.size w6 (wr.alloc (.cells #[.int .i64 6] 3))) := Lib.hid (HBR.out.alloc zr _)
          go_wp2_with fail
          generalize (wr.alloc (.cells #[.int .i64 6] 3)) = w7 at *
          go_loopw [10, 47] (fun n s wx => IRel ts 6 w7 n s wx) (fun _ s _ => 256 - (intOf s).toNat)
          case atStart => exact ⟨0, by omega, rfl, rfl, Below.refl _ _⟩
          case round =>
            obtain ⟨m, hm2, rfl, rfl, hB⟩ := hrel
            have HB := Lib.hid hB
            have zB := hB.size
            have hsb := sumTo_ge m (fun s => crit ts 6 s)
            by_cases hlt2 : m < 256
            · have e5 : (m : Int) < 256 := by omega
              have hsm : (sumTo (m + 1) fun s => one (crit ts 6 s)) = (sumTo m fun s => one (crit ts 6 s)) + one (crit ts 6 m) := rfl
              obtain ⟨q, hq⟩ : ∃ q, (sumTo m fun s => one (crit ts 6 s)) = q := ⟨_, rfl⟩
              rw [hq] at hsm hsb ⊢
              have HS := Lib.hid hsm
              have hcr : crit ts 6 m = (m.testBit 6 && topB ts (m ||| 64) && !topB ts (drop m 6)) := rfl
              have huw : IntKind.u16.wrap ((m : Int) + 1) = (m : Int) + 1 := IntWalk.u16_in _ (by omega)
              have hor : bits BinOp.or IntKind.u16 (m : Int) 64 = ((m ||| 64 : Nat) : Int) := or_u16 m 64 (by omega) (by omega)
              have hol : m ||| 64 < 256 := Nat.or_lt_two_pow (n := 8) hlt2 (by omega)
              have han : bits BinOp.andNot IntKind.u16 (m : Int) 64 = ((drop m 6 : Nat) : Int) := andNot_is (i := 6) (by omega) hlt2
              have hdl : drop m 6 < 256 := drop_lt hlt2
              have eb : (bits BinOp.and IntKind.u16 ((m : Int) / 64) 1 == 1) = m.testBit 6 := bit_is m 6 64 (by omega) rfl
              (try rw [Int.ediv_one] at eb)
              have p0 := (P1.out.call hB).at_ 0 rfl
              have pz := (P1.out.call hB).lt
              clear hB hq hsm
              go_wp2_with fail
              refine (cutsFails_yes ts (m ||| 64) _ _ (HV.out.later (B6.out.trans ((B7.out.trans (HB.out.mono B7.out.size)).mono B6.out.size))) HOK.out (by omega)).mono ?_
              rintro e w8 ⟨rfl, hb8⟩
              have B8 := Lib.hid (HB.out.trans (hb8.mono zB))
              have p1 := (P1.out.call B8.out).at_ 0 rfl
              have pz1 := (P1.out.call B8.out).lt
              clear hb8 p0 pz
              go_wp2_with fail
              refine (cutsFails_yes ts (drop m 6) _ _ (HV.out.later (B6.out.trans ((B7.out.trans (B8.out.mono B7.out.size)).mono B6.out.size))) HOK.out (by omega)).mono ?_
              rintro e w9 ⟨rfl, hb9⟩
              have B9 := Lib.hid (B8.out.trans (hb9.mono B8.out.size))
              have p2 := (P1.out.call B9.out).at_ 0 rfl
              have pz2 := (P1.out.call B9.out).lt
              clear hb9 p1 pz1 hor han
              obtain ⟨t1, ht1⟩ : ∃ t, topB ts (m ||| 64) = t := ⟨_, rfl⟩
              obtain ⟨t2, ht2⟩ : ∃ t, topB ts (drop m 6) = t := ⟨_, rfl⟩
              obtain ⟨t3, ht3⟩ : ∃ t, m.testBit 6 = t := ⟨_, rfl⟩
              rw [ht1, ht2, ht3] at hcr
              rw [ht1, ht2]
              rw [ht3] at eb
              clear ht1 ht2 ht3
              have hcr2 : crit ts 6 m = (t3 && t1 && !t2) := hcr
              clear hcr
              rw [hcr2] at HS
              clear hcr2
              cases t3
              rotate_left
              cases t1
              rotate_left
              cases t2
              all_goals go_wp2
              all_goals go_roundw
              all_goals first
                | (case rel => exact ⟨m + 1, by omega, by go_num, by rw [HS.out]; first | rfl | exact congrArg _ (Int.add_zero q).symm | (simp [one]), B9.out⟩)
                | (case measure => simp [intOf]; omega)
            · obtain rfl : m = 256 := by omega
              rw [← HCN.out]
              rw [show ((256 : Nat) : Int) = 256 from rfl]
              have B8 := Lib.hid (B7.out.trans (hB.mono B7.out.size))
              have PP := Lib.hid (P1.out.call hB)
              have p0 := PP.out.at_ 0 rfl
              have pz := PP.out.lt
              have HXC := Lib.hid (HC.out 6 (by omega))
              have hxb := HCB.out 6
              have hxx := (C6.out.call B8.out).at_ 6 rfl
              have hxz := (C6.out.call B8.out).lt
              clear hB hsb
              go_wp2_with fail
              refine (hasBit_is L 6 _ _ _ (I6.out.later B8.out (Nat.le_refl _)) (by omega) HL6.out p0 (by omega)).mono ?_
              rintro e w9 ⟨rfl, hb9⟩
              rw [show anyBit 6 L = decide (0 < X 6) from HXC.out]
              have B9 := Lib.hid (B8.out.trans (hb9.mono B8.out.size))
              have p2 := (PP.out.call hb9).at_ 0 rfl
              have pz2 := (PP.out.call hb9).lt
              have hx2 := (C6.out.call B9.out).at_ 6 rfl
              have hz2 := (C6.out.call B9.out).lt
              clear hb9 p0 pz hxx hxz HXC
              by_cases hpos : 0 < X 6
              · rw [decide_eq_true hpos]
                have hp2 : X 6 > 0 := hpos
                go_wp2
                go_roundw
                case rel => exact ⟨⟨6 + 1, by omega, by go_num⟩, B9.out⟩
                case measure => simp [intOf]
              · rw [decide_eq_false hpos]
                have hp2 : ¬ X 6 > 0 := hpos
                go_wp2
                go_roundw
                case rel => exact ⟨⟨6 + 1, by omega, by go_num⟩, B9.out⟩
                case measure => simp [intOf]
        · rw [show ((7 : Nat) : Int) = 7 from rfl]
          have P1 : Hid (CellsAt (wr.alloc (.cells #[.int .i64 7] 3)) wr.heap.size [.int .i64 7]) := Lib.hid (CellsAt.new wr _ _ _ rfl)
          have B7 : Hid (Below w6.heap.size w6 (wr.alloc (.cells #[.int .i64 7] 3))) := Lib.hid (HBR.out.alloc zr _)
          go_wp2_with fail
          generalize (wr.alloc (.cells #[.int .i64 7] 3)) = w7 at *
          go_loopw [10, 47] (fun n s wx => IRel ts 7 w7 n s wx) (fun _ s _ => 256 - (intOf s).toNat)
          case atStart => exact ⟨0, by omega, rfl, rfl, Below.refl _ _⟩
          case round =>
            obtain ⟨m, hm2, rfl, rfl, hB⟩ := hrel
            have HB := Lib.hid hB
            have zB := hB.size
            have hsb := sumTo_ge m (fun s => crit ts 7 s)
            by_cases hlt2 : m < 256
            · have e5 : (m : Int) < 256 := by omega
              have hsm : (sumTo (m + 1) fun s => one (crit ts 7 s)) = (sumTo m fun s => one (crit ts 7 s)) + one (crit ts 7 m) := rfl
              obtain ⟨q, hq⟩ : ∃ q, (sumTo m fun s => one (crit ts 7 s)) = q := ⟨_, rfl⟩
              rw [hq] at hsm hsb ⊢
              have HS := Lib.hid hsm
              have hcr : crit ts 7 m = (m.testBit 7 && topB ts (m ||| 128) && !topB ts (drop m 7)) := rfl
              have huw : IntKind.u16.wrap ((m : Int) + 1) = (m : Int) + 1 := IntWalk.u16_in _ (by omega)
              have hor : bits BinOp.or IntKind.u16 (m : Int) 128 = ((m ||| 128 : Nat) : Int) := or_u16 m 128 (by omega) (by omega)
              have hol : m ||| 128 < 256 := Nat.or_lt_two_pow (n := 8) hlt2 (by omega)
              have han : bits BinOp.andNot IntKind.u16 (m : Int) 128 = ((drop m 7 : Nat) : Int) := andNot_is (i := 7) (by omega) hlt2
              have hdl : drop m 7 < 256 := drop_lt hlt2
              have eb : (bits BinOp.and IntKind.u16 ((m : Int) / 128) 1 == 1) = m.testBit 7 := bit_is m 7 128 (by omega) rfl
              (try rw [Int.ediv_one] at eb)
              have p0 := (P1.out.call hB).at_ 0 rfl
              have pz := (P1.out.call hB).lt
              clear hB hq hsm
              go_wp2_with fail
              refine (cutsFails_yes ts (m ||| 128) _ _ (HV.out.later (B6.out.trans ((B7.out.trans (HB.out.mono B7.out.size)).mono B6.out.size))) HOK.out (by omega)).mono ?_
              rintro e w8 ⟨rfl, hb8⟩
              have B8 := Lib.hid (HB.out.trans (hb8.mono zB))
              have p1 := (P1.out.call B8.out).at_ 0 rfl
              have pz1 := (P1.out.call B8.out).lt
              clear hb8 p0 pz
              go_wp2_with fail
              refine (cutsFails_yes ts (drop m 7) _ _ (HV.out.later (B6.out.trans ((B7.out.trans (B8.out.mono B7.out.size)).mono B6.out.size))) HOK.out (by omega)).mono ?_
              rintro e w9 ⟨rfl, hb9⟩
              have B9 := Lib.hid (B8.out.trans (hb9.mono B8.out.size))
              have p2 := (P1.out.call B9.out).at_ 0 rfl
              have pz2 := (P1.out.call B9.out).lt
              clear hb9 p1 pz1 hor han
              obtain ⟨t1, ht1⟩ : ∃ t, topB ts (m ||| 128) = t := ⟨_, rfl⟩
              obtain ⟨t2, ht2⟩ : ∃ t, topB ts (drop m 7) = t := ⟨_, rfl⟩
              obtain ⟨t3, ht3⟩ : ∃ t, m.testBit 7 = t := ⟨_, rfl⟩
              rw [ht1, ht2, ht3] at hcr
              rw [ht1, ht2]
              rw [ht3] at eb
              clear ht1 ht2 ht3
              have hcr2 : crit ts 7 m = (t3 && t1 && !t2) := hcr
              clear hcr
              rw [hcr2] at HS
              clear hcr2
              cases t3
              rotate_left
              cases t1
              rotate_left
              cases t2
              all_goals go_wp2
              all_goals go_roundw
              all_goals first
                | (case rel => exact ⟨m + 1, by omega, by go_num, by rw [HS.out]; first | rfl | exact congrArg _ (Int.add_zero q).symm | (simp [one]), B9.out⟩)
                | (case measure => simp [intOf]; omega)
            · obtain rfl : m = 256 := by omega
              rw [← HCN.out]
              rw [show ((256 : Nat) : Int) = 256 from rfl]
              have B8 := Lib.hid (B7.out.trans (hB.mono B7.out.size))
              have PP := Lib.hid (P1.out.call hB)
              have p0 := PP.out.at_ 0 rfl
              have pz := PP.out.lt
              have HXC := Lib.hid (HC.out 7 (by omega))
              have hxb := HCB.out 7
              have hxx := (C6.out.call B8.out).at_ 7 rfl
              have hxz := (C6.out.call B8.out).lt
              clear hB hsb
              go_wp2_with fail
              refine (hasBit_is L 7 _ _ _ (I6.out.later B8.out (Nat.le_refl _)) (by omega) HL6.out p0 (by omega)).mono ?_
              rintro e w9 ⟨rfl, hb9⟩
              rw [show anyBit 7 L = decide (0 < X 7) from HXC.out]
              have B9 := Lib.hid (B8.out.trans (hb9.mono B8.out.size))
              have p2 := (PP.out.call hb9).at_ 0 rfl
              have pz2 := (PP.out.call hb9).lt
              have hx2 := (C6.out.call B9.out).at_ 7 rfl
              have hz2 := (C6.out.call B9.out).lt
              clear hb9 p0 pz hxx hxz HXC
              by_cases hpos : 0 < X 7
              · rw [decide_eq_true hpos]
                have hp2 : X 7 > 0 := hpos
                go_wp2
                go_roundw
                case rel => exact ⟨⟨7 + 1, by omega, by go_num⟩, B9.out⟩
                case measure => simp [intOf]
              · rw [decide_eq_false hpos]
                have hp2 : ¬ X 7 > 0 := hpos
                go_wp2
                go_roundw
                case rel => exact ⟨⟨7 + 1, by omega, by go_num⟩, B9.out⟩
                case measure => simp [intOf]
      · obtain rfl : k = 8 := by omega
        rw [show ((8 : Nat) : Int) = 8 from rfl]
        have B9 := Lib.hid (B6.out.trans (hBr.mono B6.out.size))
        clear hBr
        go_wp2
        go_ret
        exact ⟨rfl, B9.out⟩
  · have HOK := Lib.hid hok
    clear hok
    go_wp2_with fail
    generalize (w2.alloc (.cells #[.int .i64 64, .int .i64 64, .int .i64 0, .int .i64 0, .int .i64 0, .int .i64 0, .int .i64 0, .int .i64 0] TW)) = w3 at *
    refine (weighs_no ts _ _ (HV.out.later B3.out) HOK.out hm).mono ?_
    rintro e w4 ⟨⟨c, hc, rfl⟩, hb4⟩
    have B4 := Lib.hid (B3.out.trans (hb4.mono B3.out.size))
    have hcb : (c == 0) = false := by simpa using hc
    have hc2 : (c != 0) = true := by simpa using hc
    unfold WVal
    have B5 : Hid (Below w.heap.size w (w4.alloc (.cells #[.int .i64 0, .int .i64 0, .int .i64 0, .int .i64 0, .int .i64 0, .int .i64 0, .int .i64 0, .int .i64 0] TW))) := Lib.hid (B4.out.alloc B4.out.size _)
    clear hc hb4
    go_wp2
    go_ret
    exact ⟨rfl, B5.out⟩
theorem law (a : Option Addr) (len cap : Nat) (xs : List RawG) (w : World)
    (h : IsRecs 3 rawLay (gateFitS w) w a len cap xs) (hr : len ≤ cap ∧ cap * 40 ≤ 140737488351232) :
    Calls Try.prog 8 #[.slice a len cap] w fun e w' => e = .returned (.bool true) ∧ Below w.heap.size w w' := by
  obtain ⟨h1, h2⟩ := raw_trees h
  exact way ((xs.take len).map rawG) _ w h1 (by omega)
set_option maxRecDepth 100000 in
theorem lifted (os : Os) (started : os.Started) (H : Type) (enc : TypeId × Value → H) :
    ReturnsInHanded {} Try.checked os 8 .any (Rows.oddsWeighSpec.pre6 enc Try.prog Try.f8 Rows.oddsWeighRow.domain false) (Rows.oddsWeighSpec.post enc Try.prog Try.f8 false true false false) := by
  refine returnsInHanded_of_change_sized (C := Try.checked) own started (by kernel_rfl) Try.func8
    (ChangeSpec.witness6 (enc := enc) (C := Try.checked) false ⟨#[], #[.slice none 0 0], []⟩ 8 (by kernel_rfl) (by kernel_rfl) (by kernel_rfl) (by kernel_rfl)) ?_
  intro W base args ds gs before hval0 hW hcnd hsz0 _
  have hsz : (DataW.weightsEach Try.prog (Try.f8.params.toList ++ Rows.oddsWeighSpec.plain.varTypes Try.prog) (ds ++ gs)).all (· ≤ reachBytes) = true := hsz0
  have hval : ∀ (j : Nat) t v, Try.f8.params[j]? = some t → args[j]? = some v → Value.okWide Try.prog W .any base t v := hval0
  have hW' := hW
  obtain ⟨p, q, hA0, hV, rfl, hfz, hnd⟩ := hW
  have hA : DataW.TrodAll enc Try.prog W 0 (fun _ => true) true Try.f8.params.toList args.toList ds p := hA0
  rw [Try.params8] at hA hval hsz
  obtain ⟨v0, vs0, d0, ds0, p0, q0, hargs, rfl, rfl, h0, r0⟩ := trodAll_cons hA
  obtain ⟨rfl, rfl, rfl⟩ := trodAll_nil r0
  obtain rfl : args = #[v0] := by cases args; simp_all
  obtain ⟨rfl, rfl⟩ := trodVars_none hV
  have k0 := h0
  have lt0 : ∀ x ∈ p0, x.block < W.heap.size := by obtain ⟨m, hm⟩ := k0; exact DataW.trod_lt m _ _ _ hm
  obtain ⟨sa0, sl0, sc0, rfl⟩ := okWide_slice Try.underlying22 (hval 0 22 v0 rfl rfl)
  obtain ⟨a0, len0, cap0, z0, e0, w0⟩ := leaf_recsS (ts := [3, 3, 28]) 3 rawLay (gateFitS W) 12 (Try.underlying22) (by kernel_rfl) (by kernel_rfl) rfl gate_decS (by obtain ⟨fuel, hf⟩ := h0; exact ⟨fuel, _, by simpa [Value.cells] using hf, weights_of hsz (j := 0) (t := 22) rfl rfl⟩)
  simp only [Value.slice.injEq] at e0
  obtain ⟨rfl, rfl, rfl⟩ := e0
  have R0 := cap_le (B := 40) Try.underlying22 k0 (fun elems spare hd => by have := sized_slice hsz (j := 0) (t := 22) (e := 30) (elems := elems) (spare := spare) rfl (by rw [← hd]; rfl) Try.underlying22; exact this)
  clear hA0 hval0
  refine (law sa0 sl0 sc0 z0 W w0 R0).mono fun e W' ⟨he, bel⟩ => ?_
  subst he
  exact ⟨_, rfl, _, _, _, [], _, [], hW', trodAll_mk1 (shut_bool Try.underlying4 _), (trodAll_cons_mk (Below.trod laidOut (by kernel_rfl) (of_decide_eq_true (by kernel_rfl)) k0 bel lt0) trodAll_mk0), rfl, bel.frame _, fun h => by cases h⟩
theorem over : Rows.oddsWeighRow.holds Try.pinned (OpenSpec.ofChange Rows.oddsWeighSpec) :=
  OpenClaim.holds_of_wide 8 Try.f8 rfl rfl rfl rfl rfl rfl rfl ⟨rfl, rfl, rfl, rfl, rfl⟩ rfl rfl rfl rfl rfl (by kernel_rfl) Try.func8 (by kernel_rfl)
    (of_decide_eq_true (by kernel_rfl)) (by unfold Func.isWrapper; first | (rw [if_pos (by decide +kernel)]; kernel_rfl) | (rw [if_neg (by decide +kernel)]; exact ⟨rfl, rfl⟩))
    (fun os started H enc _ => lifted os started H enc)
theorem proved : Rows.OddsWeighSaid := over
#print axioms proved

end Go.Proofs.Ytiocgmioijcjhaa.oddsWeigh
