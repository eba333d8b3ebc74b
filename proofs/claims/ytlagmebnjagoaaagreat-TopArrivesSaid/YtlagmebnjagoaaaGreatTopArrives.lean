/- TopArrives: wherever the surface is told to go, the law answers true and leaves memory as it was. -/
import Derived.Test.YtlagmebnjagoaaaGreatWArr
import Derived.Test.YtlagmebnjagoaaaGreatPkYh
namespace Go.Proofs.YtlagmebnjagoaaaGreat.topArrives
open Go.ChangeShapes Go.WideShapes Go.ChangeAt Go.RowKit Go.Proofs.YtlagmebnjagoaaaGreat Go.Proofs.YtlagmebnjagoaaaGreat.Open
set_option linter.unusedVariables false
set_option maxHeartbeats 16000000
set_option maxRecDepth 100000
theorem box_new {wr w7 w8 : World} {Z L : List Value} {arr : Array Value} {T : TypeId} (ha : arr = Z.toArray) (h7 : wr.alloc (.cells arr T) = w7) (hl : L.length = Z.length) (h8 : w7.setCells wr.heap.size 0 L.toArray.toList = w8) :
    w7.there wr.heap.size 0 L.toArray.size ∧ CellsAt w8 wr.heap.size L ∧ Below wr.heap.size wr w8 := by
  subst ha h7 h8
  have Z7 : CellsAt (wr.alloc (.cells Z.toArray T)) wr.heap.size Z := CellsAt.new' rfl rfl
  exact ⟨Z7.there (by rw [List.size_toArray, hl]; exact Nat.le_refl _), Z7.row L hl, below_setCells (Nat.le_refl _) _ 0 _ ((Below.refl _ _).alloc (Nat.le_refl _) _)⟩
theorem cmdI_ok (q x : Int) : InpOk (cmdI q x) := cmd_ok q x
/-- a status lies in a block -/
def StB (w : World) (s : Nat) : Prop := ∃ L : List Value, L.length = 27 ∧ CellsAt w s L
def Out (w : World) (b g s ab : Nat) (S : Stp) (D : Dyn) (a c : Int) (vp : Value) (wr : World) : Prop := (∃ vl vg, Own w wr b S D vp vl vg) ∧ CellsAt wr g (inL quI) ∧ CellsAt wr ab [.int .i32 a, .int .i32 c]
def ARel (w : World) (b g s ab : Nat) (S : Stp) (a c : Int) (vp i : Value) (wr : World) : Prop := ∃ k : Nat, k ≤ 2 ∧ i = .int .i64 k ∧ ∃ D, Arr D k ∧ DynOk nomS D ∧ Out w b g s ab S D a c vp wr ∧ StB wr s
def XRel (w : World) (b g s ab : Nat) (S : Stp) (D : Dyn) (a c : Int) (vp i : Value) (wr : World) : Prop := ∃ j : Nat, j ≤ 150 ∧ i = .int .i64 j ∧ Out w b g s ab S (itD D j) a c vp wr ∧ ∃ L : List Value, L.length = 27 ∧ CellsAt wr s L ∧ (0 < j → ∃ x y, L = statL (itD D j) (.slice x (itD D j).log.length y))
theorem law (a c : Int) (w : World) (ha : -2147483648 ≤ a ∧ a ≤ 2147483647) (hc : -2147483648 ≤ c ∧ c ≤ 2147483647) :
    Calls Tryz.prog 6 #[.int .i32 a, .int .i32 c] w fun e w' => e = .returned (.bool true) ∧ Below w.heap.size w w' := by
  have HI12 : Hid ((Tryz.prog.info? 48).map (·.size) = some 12) := Lib.hid (by kernel_rfl)
  have HI27 : Hid ((Tryz.prog.info? 62).map (·.size) = some 27) := Lib.hid (by kernel_rfl)
  have Ha := Lib.hid ha
  have Hc := Lib.hid hc
  clear ha hc
  go_enter Tryz.func6, Tryz.ntmps6
  go_upto_region 1 with (fail)
  go_wp2_with fail
  refine (nominal_is _).mono ?_
  rintro e1 w1 ⟨g1, rfl, ho1, hb1⟩
  have HR1 := Lib.hid (own_recs (xs := nomS.prof) ho1 pointLay_len)
  have HB1 := Lib.hid hb1
  clear ho1 hb1
  go_wp2_with fail
  refine (flying_is HR1.out).mono ?_
  rintro e4 w4 ⟨b, vp, vl, vg, rfl, O4⟩
  have O4 : Own w w4 b nomS flyD vp vl vg := ⟨HB1.out.trans (O4.below.mono HB1.out.size), Nat.le_trans HB1.out.size O4.hb, O4.wat⟩
  have HO4 := Lib.hid O4
  clear O4 HR1 HB1
  go_upto_region 2 with (fail)
  go_wp2_with fail
  refine (works_is _).mono ?_
  rintro e5 w5 ⟨rfl, hb5⟩
  have HO5 := Lib.hid (HO4.out.call hb5)
  clear hb5 HO4
  go_upto_region 4 with (fail)
  go_wp2_with fail
  refine (calm_is _).mono ?_
  rintro e6 w6 ⟨rfl, hb6⟩
  have O6 := HO5.out.call hb6
  obtain ⟨w7, hw7⟩ : ∃ x, w6.alloc (.cells #[.string ⟨#[]⟩, .int .i32 0, .int .i32 0, .int .i32 0, .int .i64 0, .int .i64 0, .int .i64 0, .int .i64 0, .bool false, .int .i64 0, .bool false, .int .i64 0] 48) = x := ⟨_, rfl⟩
  obtain ⟨w8, hw8⟩ : ∃ x, w7.setCells w6.heap.size 0 (inL calmI).toArray.toList = x := ⟨_, rfl⟩
  obtain ⟨HTH, C8, b8⟩ := box_new (L := inL calmI) (Z := [.string ⟨#[]⟩, .int .i32 0, .int .i32 0, .int .i32 0, .int .i64 0, .int .i64 0, .int .i64 0, .int .i64 0, .bool false, .int .i64 0, .bool false, .int .i64 0]) rfl hw7 rfl hw8
  have hbg : b ≠ w6.heap.size := by have := O6.wat.lt; omega
  have hwg : w.heap.size ≤ w6.heap.size := O6.below.size
  have g8 : w6.heap.size < w8.heap.size := C8.lt
  have O8 : Own w w8 b (nomS.more w6.heap.size) flyD vp vl vg := ⟨O6.below.trans (b8.mono O6.below.size), O6.hb, O6.wat.more b8 (Nat.le_refl _) g8⟩
  have HON : Hid ((inL calmI).toArray.all (·.oneCell') = true) := Lib.hid (by kernel_rfl)
  have HTH := Lib.hid HTH
  have HW7 := Lib.hid hw7
  have HW8 := Lib.hid hw8
  have y8 := C8.at_ 8 rfl; have f8 := C8.2.1 8; have yz := C8.lt
  have HC9 : Hid (CellsAt (w8.setCell ⟨w6.heap.size, 8, none⟩ (.bool false)) w6.heap.size (inL quI)) := Lib.hid (C8.set_ 8 (by decide) (.bool false))
  have HO9 := Lib.hid (O8.side (grown_setW w8 w6.heap.size 8 (.bool false)) hwg hbg (.inr rfl))
  have Hbg := Lib.hid hbg
  have Hwg := Lib.hid hwg
  clear O6 hw7 hw8 C8 b8 hbg hwg g8 O8 HO5 hb6
  go_upto_region 5 with (refine wpList_store_mid rfl 48 (.tmp 7) (.tmp 24) rfl w6.heap.size 0 (inL calmI).toArray rfl rfl (by rw [HW7.out]; exact HTH.out) HI12.out HON.out ?_)
  rw [HW7.out, HW8.out]
  go_upto_region 6 with (fail)
  obtain ⟨w9, hw9⟩ : ∃ x, w8.setCell ⟨w6.heap.size, 8, none⟩ (.bool false) = x := ⟨_, rfl⟩
  rw [hw9] at HC9 HO9 ⊢
  clear hw9 y8 f8 yz HW7 HW8 HTH HON
  obtain ⟨w10, hw10⟩ : ∃ x, w9.alloc (.cells #[.int .i64 0, .int .i64 0, .bool false, .bool false, .int .i64 0, .bool false, .int .i64 0, .int .i64 0, .bool false, .int .i64 0, .int .i64 0, .bool false, .int .i64 0, .int .i64 0, .bool false, .int .i64 0, .int .i64 0, .int .i64 0, .bool false, .int .i32 0, .int .i32 0, .int .i32 0, .int .i32 0, .int .i32 0, .int .i32 0, .int .i32 0, .slice none 0 0] 62) = x := ⟨_, rfl⟩
  have b10 : Below w9.heap.size w9 w10 := hw10 ▸ (Below.refl _ _).alloc (Nat.le_refl _) _
  have X10 : CellsAt w10 w9.heap.size [.int .i64 0, .int .i64 0, .bool false, .bool false, .int .i64 0, .bool false, .int .i64 0, .int .i64 0, .bool false, .int .i64 0, .int .i64 0, .bool false, .int .i64 0, .int .i64 0, .bool false, .int .i64 0, .int .i64 0, .int .i64 0, .bool false, .int .i32 0, .int .i32 0, .int .i32 0, .int .i32 0, .int .i32 0, .int .i32 0, .int .i32 0, .slice none 0 0] := hw10 ▸ CellsAt.new' rfl rfl
  have hbs : b ≠ w9.heap.size := by have := HO9.out.wat.lt; omega
  have hws : w.heap.size ≤ w9.heap.size := HO9.out.below.size
  have hgs : w6.heap.size < w9.heap.size := HC9.out.lt
  have O10 : Own w w10 b ((nomS.more w6.heap.size).more w9.heap.size) flyD vp vl vg := ⟨HO9.out.below.trans (b10.mono HO9.out.below.size), HO9.out.hb, HO9.out.wat.more b10 (Nat.le_refl _) X10.lt⟩
  have C10 := HC9.out.call b10
  obtain ⟨w11, hw11⟩ : ∃ x, w10.alloc (.cells #[.int .i32 a, .int .i32 c] 21) = x := ⟨_, rfl⟩
  have b11 : Below w10.heap.size w10 w11 := hw11 ▸ (Below.refl _ _).alloc (Nat.le_refl _) _
  have A11 : CellsAt w11 w10.heap.size [.int .i32 a, .int .i32 c] := hw11 ▸ CellsAt.new' rfl rfl
  have HA11 := Lib.hid A11
  have HC11 := Lib.hid (C10.call b11)
  have HX11 := Lib.hid (X10.call b11)
  have HO11 := Lib.hid (O10.call b11)
  have Hba : Hid (b ≠ w10.heap.size) := Lib.hid (by have := O10.wat.lt; omega)
  have Hga : Hid (w9.heap.size < w10.heap.size) := Lib.hid X10.lt
  obtain ⟨S2, hS2⟩ : ∃ x, (nomS.more w6.heap.size).more w9.heap.size = x := ⟨_, rfl⟩
  have HSav : Hid (S2 = nomS.withAv S2.av) := Lib.hid (by rw [← hS2]; rfl)
  have Hag : Hid (S2.av w6.heap.size) := Lib.hid (by rw [← hS2]; exact .inl (.inr rfl))
  have Has : Hid (S2.av w9.heap.size) := Lib.hid (by rw [← hS2]; exact .inr rfl)
  rw [hS2] at HO11
  have Hbs := Lib.hid hbs; have Hws := Lib.hid hws; have Hgs := Lib.hid hgs
  have HW10 := Lib.hid hw10; have HW11 := Lib.hid hw11
  have hself : ∀ (x : World) (c : Nat), x.grownBy x (some c) := fun _ _ => ⟨rfl, rfl, rfl, Nat.le_refl _, fun _ _ _ => rfl⟩
  have Hself := Lib.hid hself
  clear b10 X10 O10 C10 b11 A11 hbs hws hgs hS2 hw10 hw11 hself HO9 HC9
  go_upto_region 7 with (fail)
  rw [HW10.out]
  go_upto_region 8 with (fail)
  rw [HW11.out]
  clear HW10 HW11
  go_wp2_with fail
  go_loopw [30] (fun i wr => ARel w b w6.heap.size w9.heap.size w10.heap.size S2 a c vp i wr) (fun i _ => 2 - (intOf i).toNat)
  case atStart => exact ⟨0, by omega, rfl, flyD, arr_start, fly_good, ⟨⟨_, _, HO11.out⟩, HC11.out, HA11.out⟩, _, rfl, HX11.out⟩
  case round =>
    clear HO11 HC11 HX11 HA11
    obtain ⟨k, hk, rfl, D, hD, hG, ⟨⟨vl, vg, hO⟩, hC, hA⟩, LX, hLX, hX⟩ := hrel
    have HO := Lib.hid hO; have HC := Lib.hid hC; have HA := Lib.hid hA; have HX := Lib.hid hX; have HD := Lib.hid hD; have HG := Lib.hid hG; have HLX := Lib.hid hLX
    clear hO hC hA hX hD hG hLX
    by_cases hk1 : k < 2
    · have hk2 : (k : Int) < 2 := by omega
      obtain ⟨u, hu, hub⟩ : ∃ u, wr.cell? ⟨w10.heap.size, k, none⟩ = some (.int .i32 u) ∧ -2147483648 ≤ u ∧ u ≤ 2147483647 := by
        rcases (by omega : k = 0 ∨ k = 1) with rfl | rfl
        · exact ⟨a, HA.out.at_ 0 rfl, Ha.out⟩
        · exact ⟨c, HA.out.at_ 1 rfl, Hc.out⟩
      have az := HA.out.lt
      obtain ⟨R, hR⟩ : ∃ R, restI u 6553600 = R := ⟨_, rfl⟩
      have hRb : 0 ≤ R ∧ R < 6553600 := by have := restI_bd u 6553600 (by omega); omega
      have HR := Lib.hid hR
      clear hR
      go_upto_region 10 with (fail)
      go_wp2_with fail
      refine (rest_any u 6553600 (by omega) _).mono ?_
      rintro e10 w12 ⟨rfl, rfl⟩
      rw [HR.out]
      clear HR
      clear hu hub az
      obtain ⟨W, hW⟩ : ∃ W, R - 3276800 = W := ⟨_, rfl⟩
      have HW : Hid (Half W) := Lib.hid (by unfold Half; omega)
      go_upto_region 11 with (fail)
      try rw [hW]
      have hWb : -3276800 ≤ W ∧ W ≤ 3276799 := by omega
      clear hW hRb
      go_wp2_with fail
      refine (command_is ((k : Int) + 1) W _ (by omega) (by omega)).mono ?_
      rintro e13 w13 ⟨rfl, hb13⟩
      have O13 := HO.out.call hb13
      have C13 := HC.out.call hb13
      have A13 := HA.out.call hb13
      have X13 := HX.out.call hb13
      have y0 := C13.at_ 0 rfl; have f0 := C13.2.1 0; have yz := C13.lt
      have HC14 : Hid (CellsAt (w13.setCell ⟨w6.heap.size, 0, none⟩ (.string (packS 2 0 ((k : Int) + 1) [W]))) w6.heap.size (inL (cmdI ((k : Int) + 1) W))) := Lib.hid (C13.set_ 0 (by show 0 < 12; decide) _)
      have HO14 := Lib.hid (O13.side (grown_setW w13 w6.heap.size 0 (.string (packS 2 0 ((k : Int) + 1) [W]))) Hwg.out Hbg.out Hag.out)
      have HA14 := Lib.hid (A13.other (c := w6.heap.size) (by have := Hgs.out; have := Hga.out; omega) 0 (.string (packS 2 0 ((k : Int) + 1) [W])))
      have HX14 := Lib.hid (X13.other (c := w6.heap.size) (by have := Hgs.out; omega) 0 (.string (packS 2 0 ((k : Int) + 1) [W])))
      clear hb13 O13 C13 A13 X13 HO HC HA HX
      go_upto_region 12 with (fail)
      obtain ⟨w14, hw14⟩ : ∃ x, w13.setCell ⟨w6.heap.size, 0, none⟩ (.string (packS 2 0 ((k : Int) + 1) [W])) = x := ⟨_, rfl⟩
      rw [hw14] at HC14 HO14 HA14 HX14 ⊢
      clear hw14 y0 f0 yz
      go_wp2_with (refine wpList_load_mid rfl 48 (.tmp 7) rfl w6.heap.size 0 rfl _ _ HC14.out.range Tryz.underlying48 rfl HI12.out ?_)
      obtain ⟨D1, hD1⟩ : ∃ x, frameL nomS D (cmdI ((k : Int) + 1) W) = x := ⟨_, rfl⟩
      have LEG := Lib.hid (arr_leg HD.out (by omega) HW.out hD1)
      have HG1 : Hid (DynOk nomS D1) := Lib.hid (by rw [← hD1]; exact frameL_good nom_ok _ HG.out)
      have hfr := wframe_is (I := cmdI ((k : Int) + 1) W) HO14.out.wat (by rw [HSav.out]; exact nom_ok.withAv _) (by rw [HSav.out]; exact HG.out.withAv _) (cmdI_ok _ _)
      have e0 : frameL S2 D (cmdI ((k : Int) + 1) W) = itD D1 0 := by rw [HSav.out]; show frameL _ D _ = D1; rw [← hD1]; exact frameL_av nomS _ _ _
      rw [e0] at hfr
      refine hfr.mono ?_
      clear hfr e0 hD1
      rintro e0 w15 ⟨v15, vl15, vg15, rfl, hW15, hg15, hO15, -⟩
      have O15 := HO14.out.frame hg15 hW15
      have C15 := far_cells HC14.out hg15 (Ne.symm Hbg.out)
      have A15 := far_cells HA14.out hg15 (Ne.symm Hba.out)
      have X15 := far_cells HX14.out hg15 (Ne.symm Hbs.out)
      have y0 := C15.at_ 0 rfl; have f0 := C15.2.1 0; have yz := C15.lt
      have HC16 : Hid (CellsAt (w15.setCell ⟨w6.heap.size, 0, none⟩ (.string ⟨#[]⟩)) w6.heap.size (inL quI)) := Lib.hid (C15.set_ 0 (by show 0 < 12; decide) _)
      have HO16 := Lib.hid (O15.side (grown_setW w15 w6.heap.size 0 (.string ⟨#[]⟩)) Hwg.out Hbg.out Hag.out)
      have HA16 := Lib.hid (A15.other (c := w6.heap.size) (by have := Hgs.out; have := Hga.out; omega) 0 (.string ⟨#[]⟩))
      have HX16 := Lib.hid (X15.other (c := w6.heap.size) (by have := Hgs.out; omega) 0 (.string ⟨#[]⟩))
      clear hW15 hg15 hO15 O15 C15 A15 X15 HO14 HC14 HA14 HX14 HD HG HW
      go_upto_region 14 with (fail)
      obtain ⟨w16, hw16⟩ : ∃ x, w15.setCell ⟨w6.heap.size, 0, none⟩ (.string ⟨#[]⟩) = x := ⟨_, rfl⟩
      rw [hw16] at HC16 HO16 HA16 HX16 ⊢
      clear hw16 y0 f0 yz
      go_wp2_with fail
      go_loopw [50] (fun i wr => XRel w b w6.heap.size w9.heap.size w10.heap.size S2 D1 a c vp i wr) (fun i _ => 150 - (intOf i).toNat)
      case atStart => exact ⟨0, by omega, rfl, ⟨⟨_, _, HO16.out⟩, HC16.out, HA16.out⟩, _, HLX.out, HX16.out, fun h => absurd h (by omega)⟩
      case round =>
        clear HO16 HC16 HA16 HX16 HLX
        obtain ⟨j, hj, rfl, ⟨⟨vl, vg, hO⟩, hC, hA⟩, LX, hLX, hX, hst⟩ := hrel
        have HO := Lib.hid hO; have HC := Lib.hid hC; have HA := Lib.hid hA; have HX := Lib.hid hX; have HLX := Lib.hid hLX; have HST := Lib.hid hst
        clear hO hC hA hX hLX hst
        by_cases hj1 : j < 150
        · have hj2 : (j : Int) < 150 := by omega
          go_upto_region 16 with (refine wpList_load_mid rfl 48 (.tmp 7) rfl w6.heap.size 0 rfl _ _ HC.out.range Tryz.underlying48 rfl HI12.out ?_)
          go_wp2_with (refine wpList_load_mid rfl 48 (.tmp 7) rfl w6.heap.size 0 rfl _ _ HC.out.range Tryz.underlying48 rfl HI12.out ?_)
          have hfr := wframe_is (I := quI) HO.out.wat (by rw [HSav.out]; exact nom_ok.withAv _) (by rw [HSav.out]; exact (it_good HG1.out j).withAv _) qu_ok
          have e0 : frameL S2 (itD D1 j) quI = itD D1 (j + 1) := by rw [HSav.out]; exact frameL_av nomS _ _ _
          rw [e0] at hfr
          refine hfr.mono ?_
          clear hfr e0
          rintro e0 w20 ⟨v20, vl20, vg20, rfl, hW20, hg20, hO20, -⟩
          obtain ⟨a20, c20, hv20⟩ := own_sliceW hO20
          subst hv20
          have O20 := HO.out.frame hg20 hW20
          have C20 := far_cells HC.out hg20 (Ne.symm Hbg.out)
          have A20 := far_cells HA.out hg20 (Ne.symm Hba.out)
          have X20 := far_cells HX.out hg20 (Ne.symm Hbs.out)
          have HTH : Hid (w20.there w9.heap.size 0 (statL (itD D1 (j + 1)) (.slice a20 (itD D1 (j + 1)).log.length c20)).toArray.size) := Lib.hid (X20.there (by rw [HLX.out]; exact Nat.le_refl _))
          have HON : Hid ((statL (itD D1 (j + 1)) (.slice a20 (itD D1 (j + 1)).log.length c20)).toArray.all (·.oneCell') = true) := Lib.hid (by kernel_rfl)
          have G20 := grown_setCells w9.heap.size (statL (itD D1 (j + 1)) (.slice a20 (itD D1 (j + 1)).log.length c20)).toArray.toList 0 w20 w20 (Hself.out w20 w9.heap.size)
          have HX21 := Lib.hid (X20.row (statL (itD D1 (j + 1)) (.slice a20 (itD D1 (j + 1)).log.length c20)) (by rw [HLX.out]; rfl))
          have HC21 := Lib.hid (far_cells C20 G20 (by have := Hgs.out; omega))
          have HA21 := Lib.hid (far_cells A20 G20 (by have := Hga.out; omega))
          have HO21 := Lib.hid (O20.side G20 Hws.out Hbs.out Has.out)
          clear hW20 hg20 hO20 O20 C20 A20 X20 G20 HO HC HA HX HLX HST
          go_upto_region 17 with (refine wpList_store_mid rfl 62 (.tmp 8) (.tmp 54) rfl w9.heap.size 0 (statL (itD D1 (j + 1)) (.slice a20 (itD D1 (j + 1)).log.length c20)).toArray rfl rfl HTH.out HI27.out HON.out ?_)
          simp only [Act.put]
          go_wp2_with fail
          go_roundw
          case rel => exact ⟨j + 1, by omega, by go_num, ⟨⟨_, _, HO21.out⟩, HC21.out, HA21.out⟩, _, rfl, HX21.out, fun _ => ⟨_, _, rfl⟩⟩
          case measure => simp [intOf]; omega
        · obtain rfl : j = 150 := by omega
          rw [show ((150 : Nat) : Int) = 150 from rfl]
          obtain ⟨xa, xc, rfl⟩ := HST.out (by omega)
          obtain ⟨l1, l2, l3, l4, l5⟩ := LEG.out
          have x19 := HX.out.at_ 19 rfl
          have x18 : wr.cell? ⟨w9.heap.size, 18, none⟩ = some (.bool false) := by rw [HX.out.at_ 18 rfl, l2]
          have x17 : wr.cell? ⟨w9.heap.size, 17, none⟩ = some (.int .i64 2) := by rw [HX.out.at_ 17 rfl, l3]
          have xz := HX.out.lt
          obtain ⟨p1, hp1⟩ : ∃ x, (itD D1 150).pos = x := ⟨_, rfl⟩
          obtain ⟨p2, hp2⟩ : ∃ x, (itD D1 151).pos = x := ⟨_, rfl⟩
          rw [hp1] at l1 x19
          rw [hp2] at l4
          have HP2 := Lib.hid hp2
          have HA5 := Lib.hid l5
          clear l2 l3 l5 LEG hp1 hp2
          have hw1 : IntKind.i64.wrap (p1 - W) = p1 - W := IntWalk.i64_in _ (by omega)
          have hw2 : IntKind.i64.wrap (p2 - W) = p2 - W := IntWalk.i64_in _ (by omega)
          obtain ⟨d1, hd1⟩ : ∃ d, p1 - W = d := ⟨_, rfl⟩
          obtain ⟨d2, hd2⟩ : ∃ d, p2 - W = d := ⟨_, rfl⟩
          rw [hd1] at l1
          rw [hd2] at l4
          have hn1 : IntKind.i64.wrap (-d1) = -d1 := IntWalk.i64_in _ (by omega)
          have hn2 : IntKind.i64.wrap (-d2) = -d2 := IntWalk.i64_in _ (by omega)
          have m1 : ¬ 65536 < max d1 (-d1) := by omega
          have m2 : ¬ 65536 < max d2 (-d2) := by omega
          go_upto_region 19 with (fail)
          try rw [hd1]
          go_wp2_with (refine wpList_load_mid rfl 48 (.tmp 7) rfl w6.heap.size 0 rfl _ _ HC.out.range Tryz.underlying48 rfl HI12.out ?_)
          have hfr := wframe_is (I := quI) HO.out.wat (by rw [HSav.out]; exact nom_ok.withAv _) (by rw [HSav.out]; exact (it_good HG1.out 150).withAv _) qu_ok
          have e0 : frameL S2 (itD D1 150) quI = itD D1 151 := by rw [HSav.out]; exact frameL_av nomS _ _ _
          rw [e0] at hfr
          have HG2 : Hid (DynOk nomS (itD D1 151)) := Lib.hid (it_good HG1.out 151)
          obtain ⟨D2, hD2⟩ : ∃ x, itD D1 151 = x := ⟨_, rfl⟩
          rw [hD2] at hfr HA5 HG2 HP2
          refine hfr.mono ?_
          clear hfr e0 hD2 m1 hn1 hw1 hd1 l1 x17 x18 x19 xz
          rintro e0 w30 ⟨v30, vl30, vg30, rfl, hW30, hg30, hO30, -⟩
          obtain ⟨a30, c30, hv30⟩ := own_sliceW hO30
          subst hv30
          have O30 := HO.out.frame hg30 hW30
          have C30 := far_cells HC.out hg30 (Ne.symm Hbg.out)
          have A30 := far_cells HA.out hg30 (Ne.symm Hba.out)
          have X30 := far_cells HX.out hg30 (Ne.symm Hbs.out)
          obtain ⟨w31, hw31⟩ : ∃ x, w30.alloc (.cells #[.int .i64 0, .int .i64 0, .bool false, .bool false, .int .i64 0, .bool false, .int .i64 0, .int .i64 0, .bool false, .int .i64 0, .int .i64 0, .bool false, .int .i64 0, .int .i64 0, .bool false, .int .i64 0, .int .i64 0, .int .i64 0, .bool false, .int .i32 0, .int .i32 0, .int .i32 0, .int .i32 0, .int .i32 0, .int .i32 0, .int .i32 0, .slice none 0 0] 62) = x := ⟨_, rfl⟩
          obtain ⟨w32, hw32⟩ : ∃ x, w31.setCells w30.heap.size 0 (statL D2 (.slice a30 D2.log.length c30)).toArray.toList = x := ⟨_, rfl⟩
          obtain ⟨HTH, Y, hb⟩ := box_new (L := statL D2 (.slice a30 D2.log.length c30)) (Z := [.int .i64 0, .int .i64 0, .bool false, .bool false, .int .i64 0, .bool false, .int .i64 0, .int .i64 0, .bool false, .int .i64 0, .int .i64 0, .bool false, .int .i64 0, .int .i64 0, .bool false, .int .i64 0, .int .i64 0, .int .i64 0, .bool false, .int .i32 0, .int .i32 0, .int .i32 0, .int .i32 0, .int .i32 0, .int .i32 0, .int .i32 0, .slice none 0 0]) rfl hw31 rfl hw32
          have HON : Hid ((statL D2 (.slice a30 D2.log.length c30)).toArray.all (·.oneCell') = true) := Lib.hid (by kernel_rfl)
          have HTH := Lib.hid HTH
          have HW31 := Lib.hid hw31
          have HW32 := Lib.hid hw32
          have y19 : w32.cell? ⟨w30.heap.size, 19, none⟩ = some (.int .i32 p2) := by rw [Y.at_ 19 rfl, HP2.out]
          have yz := Y.lt
          have HO32 := Lib.hid (O30.call hb); have HC32 := Lib.hid (C30.call hb); have HA32 := Lib.hid (A30.call hb); have HX32 := Lib.hid (X30.call hb)
          clear hW30 hg30 hO30 O30 C30 A30 X30 hw31 hw32 Y hb HO HC HA HX HST HLX
          go_upto_region 22 with (refine wpList_store_mid rfl 62 (.tmp 12) (.tmp 81) rfl w30.heap.size 0 (statL D2 (.slice a30 D2.log.length c30)).toArray rfl rfl (by rw [HW31.out]; exact HTH.out) HI27.out HON.out ?_)
          rw [HW31.out, HW32.out]
          clear HW31 HW32 HTH HON
          go_upto_region 23 with (fail)
          try rw [hd2]
          go_wp2_with fail
          go_roundw
          case rel => exact ⟨k + 1, by omega, by go_num, D2, (by rw [show ((k + 1 : Nat) : Int) = (k : Int) + 1 from by omega]; exact HA5.out), HG2.out, ⟨⟨_, _, HO32.out⟩, HC32.out, HA32.out⟩, _, rfl, HX32.out⟩
          case measure => simp [intOf]; omega
    · obtain rfl : k = 2 := by omega
      rw [show ((2 : Nat) : Int) = 2 from rfl]
      have HB := Lib.hid HO.out.below
      clear HO HC HA HX HD HG HLX
      go_wp2_with fail
      go_ret
      exact ⟨rfl, HB.out⟩
set_option maxRecDepth 100000 in
theorem lifted (os : Os) (started : os.Started) (H : Type) (enc : TypeId × Value → H) :
    ReturnsInHanded {} Tryz.checked os 6 .any (Rows.topArrivesSpec.pre6 enc Tryz.prog Tryz.f6 Rows.topArrivesRow.domain false) (Rows.topArrivesSpec.post enc Tryz.prog Tryz.f6 false true false false) := by
  refine returnsInHanded_of_change (C := Tryz.checked) own started (by kernel_rfl) Tryz.func6
    (ChangeSpec.witness6 (enc := enc) (C := Tryz.checked) false ⟨#[], #[.int .i32 0, .int .i32 0], []⟩ 8 (by kernel_rfl) (by kernel_rfl) (by kernel_rfl) (by kernel_rfl)) ?_
  intro W base args ds gs before hval0 hW hcnd _
  have hval : ∀ (j : Nat) t v, Tryz.f6.params[j]? = some t → args[j]? = some v → Value.okWide Tryz.prog W .any base t v := hval0
  have hW' := hW
  obtain ⟨p, q, hA0, hV, rfl, hfz, hnd⟩ := hW
  have hA : DataW.TrodAll enc Tryz.prog W 0 (fun _ => true) true Tryz.f6.params.toList args.toList ds p := hA0
  rw [Tryz.params6] at hA hval
  obtain ⟨v0, vs0, d0, ds0, p0, q0, hargs, rfl, rfl, h0, r0⟩ := trodAll_cons hA
  obtain ⟨v1, vs1, d1, ds1, p1, q1, rfl, rfl, rfl, h1, r1⟩ := trodAll_cons r0
  obtain ⟨rfl, rfl, rfl⟩ := trodAll_nil r1
  obtain rfl : args = #[v0, v1] := by cases args; simp_all
  obtain ⟨rfl, rfl⟩ := trodVars_none hV
  have k0 := h0
  have lt0 : ∀ x ∈ p0, x.block < W.heap.size := by obtain ⟨m, hm⟩ := k0; exact DataW.trod_lt m _ _ _ hm
  have k1 := h1
  have lt1 : ∀ x ∈ p1, x.block < W.heap.size := by obtain ⟨m, hm⟩ := k1; exact DataW.trod_lt m _ _ _ hm
  obtain ⟨a0, rfl, rfl, rfl, w0⟩ := open_int Tryz.underlying21 (hval 0 21 v0 rfl rfl) h0
  obtain ⟨a1, rfl, rfl, rfl, w1⟩ := open_int Tryz.underlying21 (hval 1 21 v1 rfl rfl) h1
  clear hA0 hval0
  refine (law a0 a1 W (bounds_i32 w0) (bounds_i32 w1)).mono fun e W' ⟨he, bel⟩ => ?_
  subst he
  exact ⟨_, rfl, _, _, _, [], _, [], hW', trodAll_mk1 (shut_bool Tryz.underlying4 _), (trodAll_cons_mk (Below.trod laidOut (by kernel_rfl) (of_decide_eq_true (by kernel_rfl)) k0 bel lt0) (trodAll_cons_mk (Below.trod laidOut (by kernel_rfl) (of_decide_eq_true (by kernel_rfl)) k1 bel lt1) trodAll_mk0)), rfl, bel.frame _, fun h => by cases h⟩
theorem over : Rows.topArrivesRow.holds Tryz.pinned (OpenSpec.ofChange Rows.topArrivesSpec) :=
  OpenClaim.holds_of_wide 6 Tryz.f6 rfl rfl rfl rfl rfl rfl rfl ⟨rfl, rfl, rfl, rfl, rfl⟩ rfl rfl rfl rfl rfl (by kernel_rfl) Tryz.func6 (by kernel_rfl)
    (of_decide_eq_true (by kernel_rfl)) (by unfold Func.isWrapper; first | (rw [if_pos (by decide +kernel)]; kernel_rfl) | (rw [if_neg (by decide +kernel)]; exact ⟨rfl, rfl⟩))
    (fun os started H enc _ => lifted os started H enc)
theorem proved : Rows.TopArrivesSaid := over
#print axioms proved

end Go.Proofs.YtlagmebnjagoaaaGreat.topArrives
