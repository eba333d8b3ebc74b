/- TopLost: whatever the number and the supplies are, the law answers true and leaves memory as it was. -/
import Derived.Test.YtlagmebnjagoaaaGreatWLost
import Derived.Test.YtlagmebnjagoaaaGreatPkYh
namespace Go.Proofs.YtlagmebnjagoaaaGreat.topLost
open Go.ChangeShapes Go.WideShapes Go.ChangeAt Go.RowKit Go.Proofs.YtlagmebnjagoaaaGreat Go.Proofs.YtlagmebnjagoaaaGreat.Open
set_option linter.unusedVariables false
set_option maxHeartbeats 16000000
set_option maxRecDepth 100000
theorem box_new {wr w7 w8 : World} {Z L : List Value} {arr : Array Value} {T : TypeId} (ha : arr = Z.toArray) (h7 : wr.alloc (.cells arr T) = w7) (hl : L.length = Z.length) (h8 : w7.setCells wr.heap.size 0 L.toArray.toList = w8) :
    w7.there wr.heap.size 0 L.toArray.size ∧ CellsAt w8 wr.heap.size L ∧ Below wr.heap.size wr w8 := by
  subst ha h7 h8
  have Z7 : CellsAt (wr.alloc (.cells Z.toArray T)) wr.heap.size Z := CellsAt.new' rfl rfl
  exact ⟨Z7.there (by rw [List.size_toArray, hl]; exact Nat.le_refl _), Z7.row L hl, below_setCells (Nat.le_refl _) _ 0 _ ((Below.refl _ _).alloc (Nat.le_refl _) _)⟩
theorem dry_ok {p q : Int} (hp : -2147483648 ≤ p ∧ p ≤ 2147483647) (hq : -2147483648 ≤ q ∧ q ≤ 2147483647) : InpOk (dryI p q) := ⟨qu_ok.cmd, hp, hq, qu_ok.load, qu_ok.f, qu_ok.ask, qu_ok.reset⟩
theorem itD_good (k : Nat) : DynOk nomS (itD flyD k) := it_good fly_good k
def LRel (w : World) (b g kk : Nat) (S : Stp) (p q : Int) (vp i : Value) (wr : World) : Prop := ∃ k : Nat, k ≤ kk ∧ i = .int .i64 k ∧ (∃ vl vg, Own w wr b S (itD flyD k) vp vl vg) ∧ CellsAt wr g (inL quI) ∧ CellsAt wr w.heap.size [.int .i32 p, .int .i32 q]
theorem law (n p q : Int) (w : World) (hn : -9223372036854775808 ≤ n ∧ n ≤ 9223372036854775807) (hp : -2147483648 ≤ p ∧ p ≤ 2147483647) (hq : -2147483648 ≤ q ∧ q ≤ 2147483647) :
    Calls Tryz.prog 5 #[.int .i64 n, .agg #[.int .i32 p, .int .i32 q]] w fun e w' => e = .returned (.bool true) ∧ Below w.heap.size w w' := by
  obtain ⟨w3, hw3⟩ : ∃ x, w.alloc (.cells #[.int .i32 p, .int .i32 q] 45) = x := ⟨_, rfl⟩
  have b3 : Below w.heap.size w w3 := hw3 ▸ (Below.refl _ _).alloc (Nat.le_refl _) _
  have C3 : CellsAt w3 w.heap.size [.int .i32 p, .int .i32 q] := hw3 ▸ CellsAt.new' rfl rfl
  have HI12 : Hid ((Tryz.prog.info? 48).map (·.size) = some 12) := Lib.hid (by kernel_rfl)
  have HI27 : Hid ((Tryz.prog.info? 62).map (·.size) = some 27) := Lib.hid (by kernel_rfl)
  have HIS : Hid ((Tryz.prog.info? 37).map (·.size) = some 27) := Lib.hid (by kernel_rfl)
  have HC3 := Lib.hid C3
  have HB3 := Lib.hid b3
  have HW3 := Lib.hid hw3
  have Hp := Lib.hid hp
  have Hq := Lib.hid hq
  clear hp hq b3 C3 hw3
  go_enter Tryz.func5, Tryz.ntmps5
  go_upto_region 1 with (fail)
  rw [HW3.out]
  clear HW3
  go_wp2_with fail
  refine (nominal_is _).mono ?_
  rintro e1 w1 ⟨g1, rfl, ho1, hb1⟩
  have HR1 := Lib.hid (own_recs (xs := nomS.prof) ho1 pointLay_len)
  have HC1 := Lib.hid (HC3.out.call hb1)
  have HB1 := Lib.hid (HB3.out.trans (hb1.mono HB3.out.size))
  clear ho1 hb1 HC3 HB3
  go_wp2_with fail
  refine (flying_is HR1.out).mono ?_
  rintro e4 w4 ⟨b, vp, vl, vg, rfl, O4⟩
  have HC4 := Lib.hid (HC1.out.call O4.below)
  have Hbw : Hid (w.heap.size < b) := Lib.hid (Nat.lt_of_lt_of_le HC1.out.lt O4.hb)
  have O4 : Own w w4 b nomS flyD vp vl vg := ⟨HB1.out.trans (O4.below.mono HB1.out.size), Nat.le_trans HB1.out.size O4.hb, O4.wat⟩
  have HO4 := Lib.hid O4
  clear O4 HR1 HB1 HC1
  go_upto_region 2 with (fail)
  go_wp2_with fail
  refine (works_is _).mono ?_
  rintro e5 w5 ⟨rfl, hb5⟩
  have HO5 := Lib.hid (HO4.out.call hb5)
  have HC5 := Lib.hid (HC4.out.call hb5)
  clear hb5 HO4 HC4
  go_upto_region 4 with (fail)
  go_wp2_with fail
  refine (calm_is _).mono ?_
  rintro e6 w6 ⟨rfl, hb6⟩
  have O6 := HO5.out.call hb6
  have K6 := HC5.out.call hb6
  obtain ⟨w7, hw7⟩ : ∃ x, w6.alloc (.cells #[.string ⟨#[]⟩, .int .i32 0, .int .i32 0, .int .i32 0, .int .i64 0, .int .i64 0, .int .i64 0, .int .i64 0, .bool false, .int .i64 0, .bool false, .int .i64 0] 48) = x := ⟨_, rfl⟩
  obtain ⟨w8, hw8⟩ : ∃ x, w7.setCells w6.heap.size 0 (inL calmI).toArray.toList = x := ⟨_, rfl⟩
  obtain ⟨HTH, C8, b8⟩ := box_new (L := inL calmI) (Z := [.string ⟨#[]⟩, .int .i32 0, .int .i32 0, .int .i32 0, .int .i64 0, .int .i64 0, .int .i64 0, .int .i64 0, .bool false, .int .i64 0, .bool false, .int .i64 0]) rfl hw7 rfl hw8
  have hbg : b ≠ w6.heap.size := by have := O6.wat.lt; omega
  have hwg : w.heap.size < w6.heap.size := K6.lt
  have g8 : w6.heap.size < w8.heap.size := C8.lt
  have O8 : Own w w8 b (nomS.more w6.heap.size) flyD vp vl vg := ⟨O6.below.trans (b8.mono O6.below.size), O6.hb, O6.wat.more b8 (Nat.le_refl _) g8⟩
  have K8 := K6.call b8
  have HON : Hid ((inL calmI).toArray.all (·.oneCell') = true) := Lib.hid (by kernel_rfl)
  have HTH := Lib.hid HTH
  have HW7 := Lib.hid hw7
  have HW8 := Lib.hid hw8
  have y8 := C8.at_ 8 rfl; have f8 := C8.2.1 8; have yz := C8.lt
  have HC9 : Hid (CellsAt (w8.setCell ⟨w6.heap.size, 8, none⟩ (.bool false)) w6.heap.size (inL quI)) := Lib.hid (C8.set_ 8 (by decide) (.bool false))
  have HK9 := Lib.hid (K8.other (c := w6.heap.size) (by omega) 8 (.bool false))
  have HO9 := Lib.hid (O8.side (grown_setW w8 w6.heap.size 8 (.bool false)) (Nat.le_of_lt hwg) hbg (.inr rfl))
  have Hbg := Lib.hid hbg
  have Hwg := Lib.hid hwg
  clear O6 K6 hw7 hw8 C8 b8 hbg hwg g8 O8 K8 HO5 HC5 hb6
  go_upto_region 5 with (refine wpList_store_mid rfl 48 (.tmp 7) (.tmp 23) rfl w6.heap.size 0 (inL calmI).toArray rfl rfl (by rw [HW7.out]; exact HTH.out) HI12.out HON.out ?_)
  rw [HW7.out, HW8.out]
  go_upto_region 6 with (fail)
  obtain ⟨w9, hw9⟩ : ∃ x, w8.setCell ⟨w6.heap.size, 8, none⟩ (.bool false) = x := ⟨_, rfl⟩
  rw [hw9] at HC9 HK9 HO9 ⊢
  clear hw9 y8 f8 yz HW7 HW8 HTH HON
  obtain ⟨kk, hkk, hk20⟩ : ∃ kk : Nat, restI n 20 = (kk : Int) ∧ kk < 20 := ⟨(restI n 20).toNat, by have := restI_bd n 20 (by omega); omega, by have := restI_bd n 20 (by omega); omega⟩
  go_wp2_with fail
  refine (rest_any n 20 (by omega) _).mono ?_
  rintro e10 w10 ⟨rfl, rfl⟩
  rw [hkk]
  clear hkk
  obtain ⟨S2, hS2⟩ : ∃ x, nomS.more w6.heap.size = x := ⟨_, rfl⟩
  have HSav : Hid (S2 = nomS.withAv S2.av) := Lib.hid (by rw [← hS2]; rfl)
  have Hag : Hid (S2.av w6.heap.size) := Lib.hid (by rw [← hS2]; exact .inr rfl)
  rw [hS2] at HO9
  clear hS2
  go_wp2_with fail
  go_loopw [27] (fun i wr => LRel w b w6.heap.size kk S2 p q vp i wr) (fun i _ => kk - (intOf i).toNat)
  case atStart => exact ⟨0, by omega, rfl, ⟨_, _, HO9.out⟩, HC9.out, HK9.out⟩
  case round =>
    clear HO9 HC9 HK9
    obtain ⟨k, hk, rfl, ⟨vl, vg, hO⟩, hC, hK⟩ := hrel
    have HO := Lib.hid hO; have HC := Lib.hid hC; have HK := Lib.hid hK
    clear hO hC hK
    by_cases hk1 : k < kk
    · have hk2 : (k : Int) < (kk : Int) := by omega
      go_upto_region 8 with (fail)
      go_wp2_with (refine wpList_load_mid rfl 48 (.tmp 7) rfl w6.heap.size 0 rfl _ _ HC.out.range Tryz.underlying48 rfl HI12.out ?_)
      have hfr := wframe_is (I := quI) HO.out.wat (by rw [HSav.out]; exact nom_ok.withAv _) (by rw [HSav.out]; exact (itD_good k).withAv _) qu_ok
      have e20 : frameL S2 (itD flyD k) quI = itD flyD (k + 1) := by rw [HSav.out]; exact frameL_av nomS _ _ _
      rw [e20] at hfr
      refine hfr.mono ?_
      clear hfr e20
      rintro e20 w20 ⟨v20, vl20, vg20, rfl, hW20, hg20, hO20, -⟩
      have HO21 := Lib.hid (HO.out.frame hg20 hW20)
      have HC21 := Lib.hid (far_cells HC.out hg20 (Ne.symm Hbg.out))
      have HK21 := Lib.hid (far_cells HK.out hg20 (by have := Hbw.out; omega))
      clear hW20 hg20 hO20 HO HC HK
      go_wp2_with fail
      go_roundw
      case rel => exact ⟨k + 1, by omega, by go_num, ⟨_, _, HO21.out⟩, HC21.out, HK21.out⟩
      case measure => simp [intOf]; omega
    · obtain rfl : k = kk := by omega
      go_wp2_with fail
      refine (nominal_is _).mono ?_
      rintro e30 w30 ⟨g30, rfl, -, hb30⟩
      have O30 := HO.out.call hb30
      have C30 := HC.out.call hb30
      have K30 := HK.out.call hb30
      obtain ⟨w31, hw31⟩ : ∃ x, w30.alloc (.cells #[.int .i32 0, .int .i64 0, .int .i32 0, .int .i32 0, .int .i32 0, .int .i64 0, .int .i32 0, .int .i32 0, .int .i32 0, .int .i32 0, .int .i32 0, .int .i32 0, .int .i32 0, .int .i32 0, .int .i32 0, .int .i32 0, .int .i64 0, .int .i64 0, .int .i64 0, .int .i32 0, .int .i32 0, .int .i32 0, .slice none 0 0, .int .i32 0, .int .i32 0, .int .i64 0, .int .i32 0] 37) = x := ⟨_, rfl⟩
      obtain ⟨w32, hw32⟩ : ∃ x, w31.setCells w30.heap.size 0 (setA nomS (.slice (some ⟨g30, 0, none⟩) 2 2)).toArray.toList = x := ⟨_, rfl⟩
      obtain ⟨HTH, T32, b32⟩ := box_new (L := setA nomS (.slice (some ⟨g30, 0, none⟩) 2 2)) (Z := [.int .i32 0, .int .i64 0, .int .i32 0, .int .i32 0, .int .i32 0, .int .i64 0, .int .i32 0, .int .i32 0, .int .i32 0, .int .i32 0, .int .i32 0, .int .i32 0, .int .i32 0, .int .i32 0, .int .i32 0, .int .i32 0, .int .i64 0, .int .i64 0, .int .i64 0, .int .i32 0, .int .i32 0, .int .i32 0, .slice none 0 0, .int .i32 0, .int .i32 0, .int .i64 0, .int .i32 0]) rfl hw31 rfl hw32
      have HTH := Lib.hid HTH
      have HON : Hid ((setA nomS (.slice (some ⟨g30, 0, none⟩) 2 2)).toArray.all (·.oneCell') = true) := Lib.hid (by kernel_rfl)
      have HW31 := Lib.hid hw31
      have HW32 := Lib.hid hw32
      have O32 := O30.call b32
      have C32 := C30.call b32
      have K32 := K30.call b32
      have s24 : w32.cell? ⟨w30.heap.size, 24, none⟩ = some (.int .i32 16384) := T32.at_ 24 rfl
      have sz := T32.lt
      have k0 := K32.at_ 0 rfl; have k1 := K32.at_ 1 rfl; have kz := K32.lt
      have c1 := C32.at_ 1 rfl; have c2 := C32.at_ 2 rfl; have f1 := C32.2.1 1; have f2 := C32.2.1 2; have cz := C32.lt
      have C33 := C32.set_ 1 (by show 1 < 12; decide) (.int .i32 (min p 16383))
      have O33 := O32.side (grown_setW w32 w6.heap.size 1 (.int .i32 (min p 16383))) (Nat.le_of_lt Hwg.out) Hbg.out Hag.out
      have C34 : CellsAt ((w32.setCell ⟨w6.heap.size, 1, none⟩ (.int .i32 (min p 16383))).setCell ⟨w6.heap.size, 2, none⟩ (.int .i32 (min q 16383))) w6.heap.size (inL (dryI (min p 16383) (min q 16383))) := C33.set_ 2 (by rw [List.length_set]; decide) (.int .i32 (min q 16383))
      have O34 := O33.side (grown_setW _ w6.heap.size 2 (.int .i32 (min q 16383))) (Nat.le_of_lt Hwg.out) Hbg.out Hag.out
      have HC34 := Lib.hid C34
      have HO34 := Lib.hid O34
      clear O30 C30 K30 hw31 hw32 T32 b32 O32 C32 K32 C33 O33 C34 O34 HO HC HK hb30
      go_upto_region 11 with (refine wpList_store_mid rfl 37 (.tmp 8) (.tmp 33) rfl w30.heap.size 0 (setA nomS (.slice (some ⟨g30, 0, none⟩) 2 2)).toArray rfl rfl (by rw [HW31.out]; exact HTH.out) HIS.out HON.out ?_)
      rw [HW31.out, HW32.out]
      clear HW31 HW32 HTH HON
      go_upto_region 12 with (fail)
      obtain ⟨w34, hw34⟩ : ∃ x, (w32.setCell ⟨w6.heap.size, 1, none⟩ (.int .i32 (min p 16383))).setCell ⟨w6.heap.size, 2, none⟩ (.int .i32 (min q 16383)) = x := ⟨_, rfl⟩
      rw [hw34] at HC34 HO34 ⊢
      have hP1 : (min p 16383) ≤ 16383 ∧ -2147483648 ≤ (min p 16383) := by have := Hp.out; omega
      have hQ1 : (min q 16383) ≤ 16383 ∧ -2147483648 ≤ (min q 16383) := by have := Hq.out; omega
      obtain ⟨P, hP⟩ : ∃ x, (min p 16383) = x := ⟨_, rfl⟩
      obtain ⟨Q, hQ⟩ : ∃ x, (min q 16383) = x := ⟨_, rfl⟩
      rw [hP] at HC34 hP1
      rw [hQ] at HC34 hQ1
      clear hP hQ hw34 k0 k1 kz c1 c2 f1 f2 cz s24 sz
      obtain ⟨D0, hD0⟩ : ∃ x, itD flyD k = x := ⟨_, rfl⟩
      have HG0 : Hid (DynOk nomS D0) := Lib.hid (by rw [← hD0]; exact itD_good k)
      obtain ⟨D1, hD1⟩ : ∃ x, frameL nomS (itD flyD k) (dryI P Q) = x := ⟨_, rfl⟩
      obtain ⟨D2, hD2⟩ : ∃ x, frameL nomS D1 (dryI P Q) = x := ⟨_, rfl⟩
      obtain ⟨D3, hD3⟩ : ∃ x, frameL nomS D2 (dryI 65536 0) = x := ⟨_, rfl⟩
      have LAW := Lib.hid (lost_law k hP1.1 hQ1.1 hD1 hD2 hD3)
      rw [hD0] at hD1 HO34
      have HG1 : Hid (DynOk nomS D1) := Lib.hid (by rw [← hD1]; exact frameL_good nom_ok _ HG0.out)
      have HG2 : Hid (DynOk nomS D2) := Lib.hid (by rw [← hD2]; exact frameL_good nom_ok _ HG1.out)
      have HDI : Hid (InpOk (dryI P Q)) := Lib.hid (dry_ok ⟨hP1.2, by omega⟩ ⟨hQ1.2, by omega⟩)
      have HD1 := Lib.hid hD1; have HD2 := Lib.hid hD2; have HD3 := Lib.hid hD3
      clear hD0 hD1 hD2 hD3 hP1 hQ1
      go_wp2_with (refine wpList_load_mid rfl 48 (.tmp 7) rfl w6.heap.size 0 rfl _ _ HC34.out.range Tryz.underlying48 rfl HI12.out ?_)
      have hfr := wframe_is (I := dryI P Q) HO34.out.wat (by rw [HSav.out]; exact nom_ok.withAv _) (by rw [HSav.out]; exact DynOk.withAv (HG0.out) _) (HDI.out)
      have e0 : frameL S2 D0 (dryI P Q) = D1 := by rw [HSav.out, ← HD1.out]; exact frameL_av nomS _ _ _
      rw [e0] at hfr
      refine hfr.mono ?_
      clear hfr e0
      rintro e0 w40 ⟨v0, vl40, vg40, rfl, hW, hg, hO, -⟩
      obtain ⟨a40, c40, hv⟩ := own_sliceW hO
      subst hv
      have O := HO34.out.frame hg hW
      have C := far_cells HC34.out hg (Ne.symm Hbg.out)
      have R := own_recs (xs := D1.log) hO entLay_len
      obtain ⟨-, l2, -⟩ := LAW.out
      have hl1 : D1.log.length = 1 := by rw [l2]; rfl
      rw [hl1] at hO ⊢
      obtain ⟨gl, lc, gz⟩ : ∃ gl, a40 = some ⟨gl, 0, none⟩ ∧ w40.cell? ⟨gl, 2, none⟩ = some (.int .i64 3) := by
        rcases hO.2 with ⟨-, h⟩ | ⟨gl, cap, cur, h1, -⟩
        · omega
        · cases h1
          rcases R with ⟨h, -⟩ | ⟨-, bl, off, cap, h2, -, -, hx⟩
          · rw [h] at hl1; cases hl1
          · cases h2
            exact ⟨gl, rfl, hx 0 (D1.frame, 4, 3, 1) (by rw [l2]; rfl) 2 (by omega)⟩
      subst lc
      have lc := gz
      have gz : gl < w40.heap.size := World.block_lt_of_cell? _ _ lc
      clear R l2 hl1
      obtain ⟨w41, hw41⟩ : ∃ x, w40.alloc (.cells #[.int .i64 0, .int .i64 0, .bool false, .bool false, .int .i64 0, .bool false, .int .i64 0, .int .i64 0, .bool false, .int .i64 0, .int .i64 0, .bool false, .int .i64 0, .int .i64 0, .bool false, .int .i64 0, .int .i64 0, .int .i64 0, .bool false, .int .i32 0, .int .i32 0, .int .i32 0, .int .i32 0, .int .i32 0, .int .i32 0, .int .i32 0, .slice none 0 0] 62) = x := ⟨_, rfl⟩
      obtain ⟨w42, hw42⟩ : ∃ x, w41.setCells w40.heap.size 0 (statL D1 (.slice (some ⟨gl, 0, none⟩) 1 c40)).toArray.toList = x := ⟨_, rfl⟩
      obtain ⟨HTH, X, hb⟩ := box_new (L := statL D1 (.slice (some ⟨gl, 0, none⟩) 1 c40)) (Z := [.int .i64 0, .int .i64 0, .bool false, .bool false, .int .i64 0, .bool false, .int .i64 0, .int .i64 0, .bool false, .int .i64 0, .int .i64 0, .bool false, .int .i64 0, .int .i64 0, .bool false, .int .i64 0, .int .i64 0, .int .i64 0, .bool false, .int .i32 0, .int .i32 0, .int .i32 0, .int .i32 0, .int .i32 0, .int .i32 0, .int .i32 0, .slice none 0 0]) rfl hw41 rfl hw42
      have HON : Hid ((statL D1 (.slice (some ⟨gl, 0, none⟩) 1 c40)).toArray.all (·.oneCell') = true) := Lib.hid (by kernel_rfl)
      have HTH := Lib.hid HTH
      have HW41 := Lib.hid hw41
      have HW42 := Lib.hid hw42
      have Hbs40 : Hid (b ≠ w40.heap.size) := Lib.hid (by have := O.wat.lt; omega)
      have HX40_42 := Lib.hid X
      have Hg4 : Hid (w6.heap.size < w40.heap.size) := Lib.hid C.lt
      have HO42 := Lib.hid (O.call hb)
      have HC42 := Lib.hid (C.call hb)
      have LC := hb.cell (p := ⟨gl, 2, none⟩) gz
      rw [lc] at LC
      have gz := Nat.lt_of_lt_of_le gz hb.size
      clear lc
      clear hW hg hO O C X hb hw41 hw42 HO34 HC34
      go_upto_region 13 with (refine wpList_store_mid rfl 62 (.tmp 9) (.tmp 50) rfl w40.heap.size 0 (statL D1 (.slice (some ⟨gl, 0, none⟩) 1 c40)).toArray rfl rfl (by rw [HW41.out]; exact HTH.out) HI27.out HON.out ?_)
      rw [HW41.out, HW42.out]
      clear HW41 HW42 HTH HON
      have x18 : w42.cell? ⟨w40.heap.size, 18, none⟩ = some (.bool true) := by rw [HX40_42.out.at_ 18 rfl, LAW.out.1]
      have x26 := HX40_42.out.at_ 26 rfl
      have xz := HX40_42.out.lt
      go_upto_region 15 with (fail)
      clear x18 x26 xz LC gz
      go_wp2_with (refine wpList_load_mid rfl 48 (.tmp 7) rfl w6.heap.size 0 rfl _ _ HC42.out.range Tryz.underlying48 rfl HI12.out ?_)
      have hfr := wframe_is (I := dryI P Q) HO42.out.wat (by rw [HSav.out]; exact nom_ok.withAv _) (by rw [HSav.out]; exact DynOk.withAv (HG1.out) _) (HDI.out)
      have e0 : frameL S2 D1 (dryI P Q) = D2 := by rw [HSav.out, ← HD2.out]; exact frameL_av nomS _ _ _
      rw [e0] at hfr
      refine hfr.mono ?_
      clear hfr e0
      rintro e0 w50 ⟨v0, vl50, vg50, rfl, hW, hg, hO, -⟩
      obtain ⟨a50, c50, hv⟩ := own_sliceW hO
      subst hv
      have O := HO42.out.frame hg hW
      have C := far_cells HC42.out hg (Ne.symm Hbg.out)
      have X_HX40_ := far_cells HX40_42.out hg (Ne.symm Hbs40.out)
      obtain ⟨w51, hw51⟩ : ∃ x, w50.alloc (.cells #[.int .i64 0, .int .i64 0, .bool false, .bool false, .int .i64 0, .bool false, .int .i64 0, .int .i64 0, .bool false, .int .i64 0, .int .i64 0, .bool false, .int .i64 0, .int .i64 0, .bool false, .int .i64 0, .int .i64 0, .int .i64 0, .bool false, .int .i32 0, .int .i32 0, .int .i32 0, .int .i32 0, .int .i32 0, .int .i32 0, .int .i32 0, .slice none 0 0] 62) = x := ⟨_, rfl⟩
      obtain ⟨w52, hw52⟩ : ∃ x, w51.setCells w50.heap.size 0 (statL D2 (.slice a50 D2.log.length c50)).toArray.toList = x := ⟨_, rfl⟩
      obtain ⟨HTH, X, hb⟩ := box_new (L := statL D2 (.slice a50 D2.log.length c50)) (Z := [.int .i64 0, .int .i64 0, .bool false, .bool false, .int .i64 0, .bool false, .int .i64 0, .int .i64 0, .bool false, .int .i64 0, .int .i64 0, .bool false, .int .i64 0, .int .i64 0, .bool false, .int .i64 0, .int .i64 0, .int .i64 0, .bool false, .int .i32 0, .int .i32 0, .int .i32 0, .int .i32 0, .int .i32 0, .int .i32 0, .int .i32 0, .slice none 0 0]) rfl hw51 rfl hw52
      have HON : Hid ((statL D2 (.slice a50 D2.log.length c50)).toArray.all (·.oneCell') = true) := Lib.hid (by kernel_rfl)
      have HTH := Lib.hid HTH
      have HW51 := Lib.hid hw51
      have HW52 := Lib.hid hw52
      have Hbs50 : Hid (b ≠ w50.heap.size) := Lib.hid (by have := O.wat.lt; omega)
      have HX50_52 := Lib.hid X
      have Hg5 : Hid (w6.heap.size < w50.heap.size) := Lib.hid C.lt
      have HO52 := Lib.hid (O.call hb)
      have HC52 := Lib.hid (C.call hb)
      have HX40_52 := Lib.hid (X_HX40_.call hb)
      clear hW hg hO O C X hb hw51 hw52 HO42 HC42 X_HX40_ HX40_42
      go_upto_region 16 with (refine wpList_store_mid rfl 62 (.tmp 10) (.tmp 75) rfl w50.heap.size 0 (statL D2 (.slice a50 D2.log.length c50)).toArray rfl rfl (by rw [HW51.out]; exact HTH.out) HI27.out HON.out ?_)
      rw [HW51.out, HW52.out]
      clear HW51 HW52 HTH HON
      have c1 := HC52.out.at_ 1 rfl; have c2 := HC52.out.at_ 2 rfl; have f1 := HC52.out.2.1 1; have f2 := HC52.out.2.1 2; have cz := HC52.out.lt
      have C53 := HC52.out.set_ 1 (by show 1 < 12; decide) (.int .i32 65536)
      have O53 := HO52.out.side (grown_setW w52 w6.heap.size 1 (.int .i32 65536)) (Nat.le_of_lt Hwg.out) Hbg.out Hag.out
      have C54 : CellsAt ((w52.setCell ⟨w6.heap.size, 1, none⟩ (.int .i32 65536)).setCell ⟨w6.heap.size, 2, none⟩ (.int .i32 0)) w6.heap.size (inL (dryI 65536 0)) := C53.set_ 2 (by rw [List.length_set]; show 2 < 12; decide) (.int .i32 0)
      have O54 := O53.side (grown_setW _ w6.heap.size 2 (.int .i32 0)) (Nat.le_of_lt Hwg.out) Hbg.out Hag.out
      have X54 := (HX40_52.out.other (c := w6.heap.size) (by have := Hg4.out; omega) 1 (.int .i32 65536)).other (c := w6.heap.size) (by have := Hg4.out; omega) 2 (.int .i32 0)
      have Y54 := (HX50_52.out.other (c := w6.heap.size) (by have := Hg5.out; omega) 1 (.int .i32 65536)).other (c := w6.heap.size) (by have := Hg5.out; omega) 2 (.int .i32 0)
      have HC54 := Lib.hid C54; have HO54 := Lib.hid O54; have HX40_54 := Lib.hid X54; have HX50_54 := Lib.hid Y54
      clear C53 O53 C54 O54 X54 Y54 HC52 HO52 HX40_52 HX50_52
      go_upto_region 17 with (fail)
      obtain ⟨w54, hw54⟩ : ∃ x, (w52.setCell ⟨w6.heap.size, 1, none⟩ (.int .i32 65536)).setCell ⟨w6.heap.size, 2, none⟩ (.int .i32 0) = x := ⟨_, rfl⟩
      rw [hw54] at HC54 HO54 HX40_54 HX50_54 ⊢
      clear hw54 c1 c2 f1 f2 cz
      go_wp2_with (refine wpList_load_mid rfl 48 (.tmp 7) rfl w6.heap.size 0 rfl _ _ HC54.out.range Tryz.underlying48 rfl HI12.out ?_)
      have hfr := wframe_is (I := dryI 65536 0) HO54.out.wat (by rw [HSav.out]; exact nom_ok.withAv _) (by rw [HSav.out]; exact DynOk.withAv (HG2.out) _) (dry_ok (by omega) (by omega))
      have e0 : frameL S2 D2 (dryI 65536 0) = D3 := by rw [HSav.out, ← HD3.out]; exact frameL_av nomS _ _ _
      rw [e0] at hfr
      refine hfr.mono ?_
      clear hfr e0
      rintro e0 w60 ⟨v0, vl60, vg60, rfl, hW, hg, hO, -⟩
      obtain ⟨a60, c60, hv⟩ := own_sliceW hO
      subst hv
      have O := HO54.out.frame hg hW
      have C := far_cells HC54.out hg (Ne.symm Hbg.out)
      have X_HX40_ := far_cells HX40_54.out hg (Ne.symm Hbs40.out)
      have X_HX50_ := far_cells HX50_54.out hg (Ne.symm Hbs50.out)
      obtain ⟨w61, hw61⟩ : ∃ x, w60.alloc (.cells #[.int .i64 0, .int .i64 0, .bool false, .bool false, .int .i64 0, .bool false, .int .i64 0, .int .i64 0, .bool false, .int .i64 0, .int .i64 0, .bool false, .int .i64 0, .int .i64 0, .bool false, .int .i64 0, .int .i64 0, .int .i64 0, .bool false, .int .i32 0, .int .i32 0, .int .i32 0, .int .i32 0, .int .i32 0, .int .i32 0, .int .i32 0, .slice none 0 0] 62) = x := ⟨_, rfl⟩
      obtain ⟨w62, hw62⟩ : ∃ x, w61.setCells w60.heap.size 0 (statL D3 (.slice a60 D3.log.length c60)).toArray.toList = x := ⟨_, rfl⟩
      obtain ⟨HTH, X, hb⟩ := box_new (L := statL D3 (.slice a60 D3.log.length c60)) (Z := [.int .i64 0, .int .i64 0, .bool false, .bool false, .int .i64 0, .bool false, .int .i64 0, .int .i64 0, .bool false, .int .i64 0, .int .i64 0, .bool false, .int .i64 0, .int .i64 0, .bool false, .int .i64 0, .int .i64 0, .int .i64 0, .bool false, .int .i32 0, .int .i32 0, .int .i32 0, .int .i32 0, .int .i32 0, .int .i32 0, .int .i32 0, .slice none 0 0]) rfl hw61 rfl hw62
      have HON : Hid ((statL D3 (.slice a60 D3.log.length c60)).toArray.all (·.oneCell') = true) := Lib.hid (by kernel_rfl)
      have HTH := Lib.hid HTH
      have HW61 := Lib.hid hw61
      have HW62 := Lib.hid hw62
      have Hbs60 : Hid (b ≠ w60.heap.size) := Lib.hid (by have := O.wat.lt; omega)
      have HX60_62 := Lib.hid X
      have HO62 := Lib.hid (O.call hb)
      have HC62 := Lib.hid (C.call hb)
      have HX40_62 := Lib.hid (X_HX40_.call hb)
      have HX50_62 := Lib.hid (X_HX50_.call hb)
      clear hW hg hO O C X hb hw61 hw62 HO54 HC54 X_HX40_ HX40_54 X_HX50_ HX50_54
      go_upto_region 18 with (refine wpList_store_mid rfl 62 (.tmp 11) (.tmp 80) rfl w60.heap.size 0 (statL D3 (.slice a60 D3.log.length c60)).toArray rfl rfl (by rw [HW61.out]; exact HTH.out) HI27.out HON.out ?_)
      rw [HW61.out, HW62.out]
      clear HW61 HW62 HTH HON
      obtain ⟨l1, l2, l3, l4, l5, l6, l7⟩ := LAW.out
      have y18 : w62.cell? ⟨w50.heap.size, 18, none⟩ = some (.bool true) := by rw [HX50_62.out.at_ 18 rfl, l3]
      have y26 : w62.cell? ⟨w50.heap.size, 26, none⟩ = some (.slice a50 1 c50) := by rw [HX50_62.out.at_ 26 rfl, l4, l2]; rfl
      have x26 := HX40_62.out.at_ 26 rfl
      have z18 : w62.cell? ⟨w60.heap.size, 18, none⟩ = some (.bool false) := by rw [HX60_62.out.at_ 18 rfl, l5]
      have z17 : w62.cell? ⟨w60.heap.size, 17, none⟩ = some (.int .i64 2) := by rw [HX60_62.out.at_ 17 rfl, l6]
      have z16 : w62.cell? ⟨w60.heap.size, 16, none⟩ = some (.int .i64 3) := by rw [HX60_62.out.at_ 16 rfl, l7]
      have xz := HX40_62.out.lt; have yz := HX50_62.out.lt; have zz := HX60_62.out.lt
      have HB := Lib.hid HO62.out.below
      clear l1 l2 l3 l4 l5 l6 l7 LAW HX40_62 HX50_62 HX60_62 HO62 HC62
      go_wp2_with fail
      go_ret
      exact ⟨rfl, HB.out⟩
set_option maxRecDepth 100000 in
theorem lifted (os : Os) (started : os.Started) (H : Type) (enc : TypeId × Value → H) :
    ReturnsInHanded {} Tryz.checked os 5 .any (Rows.topLostSpec.pre6 enc Tryz.prog Tryz.f5 Rows.topLostRow.domain false) (Rows.topLostSpec.post enc Tryz.prog Tryz.f5 false true false false) := by
  refine returnsInHanded_of_change (C := Tryz.checked) own started (by kernel_rfl) Tryz.func5
    (ChangeSpec.witness6 (enc := enc) (C := Tryz.checked) false ⟨#[], #[.int .i64 0, .agg #[.int .i32 0, .int .i32 0]], []⟩ 8 (by kernel_rfl) (by kernel_rfl) (by kernel_rfl) (by kernel_rfl)) ?_
  intro W base args ds gs before hval0 hW hcnd _
  have hval : ∀ (j : Nat) t v, Tryz.f5.params[j]? = some t → args[j]? = some v → Value.okWide Tryz.prog W .any base t v := hval0
  have hW' := hW
  obtain ⟨p, q, hA0, hV, rfl, hfz, hnd⟩ := hW
  have hA : DataW.TrodAll enc Tryz.prog W 0 (fun _ => true) true Tryz.f5.params.toList args.toList ds p := hA0
  rw [Tryz.params5] at hA hval
  obtain ⟨v0, vs0, d0, ds0, p0, q0, hargs, rfl, rfl, h0, r0⟩ := trodAll_cons hA
  obtain ⟨v1, vs1, d1, ds1, p1, q1, rfl, rfl, rfl, h1, r1⟩ := trodAll_cons r0
  obtain ⟨rfl, rfl, rfl⟩ := trodAll_nil r1
  obtain rfl : args = #[v0, v1] := by cases args; simp_all
  obtain ⟨rfl, rfl⟩ := trodVars_none hV
  have k0 := h0
  have lt0 : ∀ x ∈ p0, x.block < W.heap.size := by obtain ⟨m, hm⟩ := k0; exact DataW.trod_lt m _ _ _ hm
  have k1 := h1
  have lt1 : ∀ x ∈ p1, x.block < W.heap.size := by obtain ⟨m, hm⟩ := k1; exact DataW.trod_lt m _ _ _ hm
  obtain ⟨a0, rfl, rfl, rfl, w0⟩ := open_int Tryz.underlying3 (hval 0 3 v0 rfl rfl) h0
  obtain ⟨cs1, rfl, lf1_0⟩ := open_flat 12 [21, 21] (by kernel_rfl) (by kernel_rfl) (by kernel_rfl) (hval 1 45 v1 rfl rfl) h1
  obtain ⟨c1_0, r1_0, rfl, y1_0, lf1_1⟩ := leafs_cons lf1_0
  obtain ⟨a1_0, rfl, w1_0⟩ := leaf_int Tryz.underlying21 y1_0
  obtain ⟨c1_1, r1_1, rfl, y1_1, lf1_2⟩ := leafs_cons lf1_1
  obtain ⟨a1_1, rfl, w1_1⟩ := leaf_int Tryz.underlying21 y1_1
  obtain rfl := leafs_nil lf1_2
  clear hA0 hval0
  refine (law a0 a1_0 a1_1 W (bounds_i64 w0) (bounds_i32 w1_0) (bounds_i32 w1_1)).mono fun e W' ⟨he, bel⟩ => ?_
  subst he
  exact ⟨_, rfl, _, _, _, [], _, [], hW', trodAll_mk1 (shut_bool Tryz.underlying4 _), (trodAll_cons_mk (Below.trod laidOut (by kernel_rfl) (of_decide_eq_true (by kernel_rfl)) k0 bel lt0) (trodAll_cons_mk (Below.trod laidOut (by kernel_rfl) (of_decide_eq_true (by kernel_rfl)) k1 bel lt1) trodAll_mk0)), rfl, bel.frame _, fun h => by cases h⟩
theorem over : Rows.topLostRow.holds Tryz.pinned (OpenSpec.ofChange Rows.topLostSpec) :=
  OpenClaim.holds_of_wide 5 Tryz.f5 rfl rfl rfl rfl rfl rfl rfl ⟨rfl, rfl, rfl, rfl, rfl⟩ rfl rfl rfl rfl rfl (by kernel_rfl) Tryz.func5 (by kernel_rfl)
    (of_decide_eq_true (by kernel_rfl)) (by unfold Func.isWrapper; first | (rw [if_pos (by decide +kernel)]; kernel_rfl) | (rw [if_neg (by decide +kernel)]; exact ⟨rfl, rfl⟩))
    (fun os started H enc _ => lifted os started H enc)
theorem proved : Rows.TopLostSaid := over
#print axioms proved

end Go.Proofs.YtlagmebnjagoaaaGreat.topLost
