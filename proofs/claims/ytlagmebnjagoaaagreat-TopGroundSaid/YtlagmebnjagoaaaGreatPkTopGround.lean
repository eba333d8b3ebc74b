/- TopGround: whatever the setup and the inputs are, the law answers true and leaves memory as it was. -/
import Derived.Test.YtlagmebnjagoaaaGreatPkZh
set_option maxHeartbeats 16000000
set_option maxRecDepth 100000
namespace Go.Proofs.YtlagmebnjagoaaaGreat.topGround
open Go.ChangeShapes Go.WideShapes Go.ChangeAt Go.RowKit Go.Proofs.YtlagmebnjagoaaaGreat Go.Proofs.YtlagmebnjagoaaaGreat.Open
set_option linter.unusedVariables false
def LRel (w : World) (b s : Nat) (S : Stp) (S0 : Stp) (xs : List Inp) (vp i : Value) (wr : World) : Prop := ∃ k : Nat, k ≤ xs.length ∧ i = .int .i64 k ∧ (∃ vl vg, Own w wr b S (runD S0 xs k) vp vl vg) ∧ ∃ v, (∃ a c, v = .slice a (runD S0 xs k).log.length c) ∧ CellsAt wr s (statL (runD S0 xs k) v)
theorem way {S : Stp} {ap : Option Addr} {cp : Nat} {xs : List Inp} {la : Option Addr} {lc : Nat} {w : World} (hp : RecsAt 3 pointLay w (.slice ap S.prof.length cp) S.prof) (hl : S.prof.length ≤ 9223372036854775807) (hin : StpIn S) (hav : ∀ c, ¬ S.av c) (hx : RecsAt 12 inL w (.slice la xs.length lc) xs) (hok : ∀ I ∈ xs, InpOk I) (hxl : xs.length ≤ 9223372036854775807) :
    Calls Tryz.prog 4 #[stpV S (.slice ap S.prof.length cp), .slice la xs.length lc] w fun e w' => e = .returned (.bool true) ∧ Below w.heap.size w w' := by
  obtain ⟨w3, hw3⟩ : ∃ x, w.alloc (.cells #[.int .i32 S.gain, .int .i64 S.drag, .int .i32 S.low, .int .i32 S.high, .int .i32 S.rate, .int .i64 S.soft, .int .i32 S.P, .int .i32 S.I, .int .i32 S.D, .int .i32 S.lo, .int .i32 S.hi, .int .i32 S.m0, .int .i32 S.m1, .int .i32 S.m2, .int .i32 S.m3, .int .i32 S.m4, .int .i64 S.up, .int .i64 S.down, .int .i64 S.most, .int .i32 S.sum, .int .i32 S.wide, .int .i32 S.full, .slice ap S.prof.length cp, .int .i32 S.oh, .int .i32 S.ol, .int .i64 S.bits, .int .i32 S.trim] 37) = x := ⟨_, rfl⟩
  have b3 : Below w.heap.size w w3 := hw3 ▸ (Below.refl _ _).alloc (Nat.le_refl _) _
  have C3 : CellsAt w3 w.heap.size [.int .i32 S.gain, .int .i64 S.drag, .int .i32 S.low, .int .i32 S.high, .int .i32 S.rate, .int .i64 S.soft, .int .i32 S.P, .int .i32 S.I, .int .i32 S.D, .int .i32 S.lo, .int .i32 S.hi, .int .i32 S.m0, .int .i32 S.m1, .int .i32 S.m2, .int .i32 S.m3, .int .i32 S.m4, .int .i64 S.up, .int .i64 S.down, .int .i64 S.most, .int .i32 S.sum, .int .i32 S.wide, .int .i32 S.full, .slice ap S.prof.length cp, .int .i32 S.oh, .int .i32 S.ol, .int .i64 S.bits, .int .i32 S.trim] := hw3 ▸ CellsAt.new' rfl rfl
  have HI12 : Hid ((Tryz.prog.info? 48).map (·.size) = some 12) := Lib.hid (by kernel_rfl)
  have HI27 : Hid ((Tryz.prog.info? 62).map (·.size) = some 27) := Lib.hid (by kernel_rfl)
  have HIS : Hid ((Tryz.prog.info? 37).map (·.size) = some 27) := Lib.hid (by kernel_rfl)
  have HC3 := Lib.hid C3
  have HB3 := Lib.hid b3
  have HW3 := Lib.hid hw3
  have HP := Lib.hid hp
  have HX := Lib.hid hx
  have HOK := Lib.hid hok
  have HIN := Lib.hid hin
  have HAV := Lib.hid hav
  clear hp hin hx hok hav b3 C3 hw3
  go_enter Tryz.func4, Tryz.ntmps4
  go_upto_region 1 with (fail)
  rw [HW3.out]
  clear HW3
  go_wp2_with fail
  refine (works_is _).mono ?_
  rintro e4 w4 ⟨rfl, hb4⟩
  have C4 := HC3.out.call hb4
  have RNG := Lib.hid C4.range
  have B4 := HB3.out.trans (hb4.mono HB3.out.size)
  have HB4 := Lib.hid B4
  have hp4 := HP.out.later pointLay_len B4 (Nat.le_refl _)
  have HP4 := Lib.hid hp4
  clear C4 B4 hb4 hp4 HC3 HB3
  by_cases hc : chkE S = 0
  case neg =>
    obtain ⟨c, hcc⟩ : ∃ x, chkE S = x := ⟨_, rfl⟩
    have HNO := Lib.hid (new_no HP4.out hl HIN.out hc)
    rw [hcc] at HNO hc
    have d1 : (c == 0) = false := by simpa using hc
    clear hcc hc
    go_wp2_with (refine wpList_load_mid rfl 37 (.tmp 2) rfl w.heap.size 0 rfl _ _ RNG.out Tryz.underlying37 rfl HIS.out ?_)
    refine HNO.out.mono ?_
    rintro e5 w5 ⟨rfl, hb5⟩
    go_wp2_with fail
    go_ret
    exact ⟨rfl, HB4.out.trans (hb5.mono HB4.out.size)⟩
  have HSO := Lib.hid (chkE_zero HIN.out hc)
  have HNE := Lib.hid (new_yes HP4.out HSO.out (fun c h => absurd h (HAV.out c)))
  clear hc
  go_upto_region 3 with (fail)
  go_wp2_with (refine wpList_load_mid rfl 37 (.tmp 2) rfl w.heap.size 0 rfl _ _ RNG.out Tryz.underlying37 rfl HIS.out ?_)
  refine HNE.out.mono ?_
  rintro e5 w5 ⟨b, vp, rfl, hb, hW5, hb5, -⟩
  have O5 : Own w w5 b S (runD S xs 0) vp (.slice none 0 0) (.slice none 0 0) := ⟨HB4.out.trans (hb5.mono HB4.out.size), Nat.le_trans HB4.out.size hb, hW5⟩
  have HO5 := Lib.hid O5
  clear hb hW5 hb5 O5 HNE HP4 HB4 RNG HP
  go_upto_region 6 with (fail)
  go_wp2_with fail
  refine (status_is HO5.out.wat (runD_good HSO.out xs 0)).mono ?_
  rintro e9 w9 ⟨v9, rfl, hO9, hb9⟩
  obtain ⟨a9, c9, hv9⟩ := own_sliceW hO9
  subst hv9
  have O9 := HO5.out.call hb9
  obtain ⟨w10, hw10⟩ : ∃ x, w9.alloc (.cells #[.int .i64 0, .int .i64 0, .bool false, .bool false, .int .i64 0, .bool false, .int .i64 0, .int .i64 0, .bool false, .int .i64 0, .int .i64 0, .bool false, .int .i64 0, .int .i64 0, .bool false, .int .i64 0, .int .i64 0, .int .i64 0, .bool false, .int .i32 0, .int .i32 0, .int .i32 0, .int .i32 0, .int .i32 0, .int .i32 0, .int .i32 0, .slice none 0 0] 62) = x := ⟨_, rfl⟩
  have b10 : Below w9.heap.size w9 w10 := hw10 ▸ (Below.refl _ _).alloc (Nat.le_refl _) _
  have z10 : w9.heap.size < w10.heap.size := by rw [← hw10]; simp
  have Z10 : CellsAt w10 w9.heap.size [.int .i64 0, .int .i64 0, .bool false, .bool false, .int .i64 0, .bool false, .int .i64 0, .int .i64 0, .bool false, .int .i64 0, .int .i64 0, .bool false, .int .i64 0, .int .i64 0, .bool false, .int .i64 0, .int .i64 0, .int .i64 0, .bool false, .int .i32 0, .int .i32 0, .int .i32 0, .int .i32 0, .int .i32 0, .int .i32 0, .int .i32 0, .slice none 0 0] := hw10 ▸ CellsAt.new' rfl rfl
  have hbs : b ≠ w9.heap.size := by have := O9.wat.lt; omega
  have hws : w.heap.size ≤ w9.heap.size := O9.below.size
  obtain ⟨S2, hS2⟩ : ∃ x, S.more w9.heap.size = x := ⟨_, rfl⟩
  have hSav : S2 = S.withAv S2.av := by rw [← hS2]; rfl
  have as0 : S2.av w9.heap.size := by rw [← hS2]; exact .inr rfl
  have O10 : Own w w10 b S2 (runD S xs 0) vp (.slice none 0 0) (.slice none 0 0) := ⟨O9.below.trans (b10.mono O9.below.size), O9.hb, by rw [← hS2]; exact O9.wat.more b10 (Nat.le_refl _) z10⟩
  have HTH : Hid (w10.there w9.heap.size 0 (statL (runD S xs 0) (.slice a9 (runD S xs 0).log.length c9)).toArray.size) := Lib.hid (Z10.there (n := 27) (Nat.le_refl _))
  have HON : Hid ((statL (runD S xs 0) (.slice a9 (runD S xs 0).log.length c9)).toArray.all (·.oneCell') = true) := Lib.hid (by kernel_rfl)
  have hself : ∀ (x : World) (c : Nat), x.grownBy x (some c) := fun _ _ => ⟨rfl, rfl, rfl, Nat.le_refl _, fun _ _ _ => rfl⟩
  obtain ⟨w11, hw11⟩ : ∃ x, w10.setCells w9.heap.size 0 (statL (runD S xs 0) (.slice a9 (runD S xs 0).log.length c9)).toArray.toList = x := ⟨_, rfl⟩
  have T11 : CellsAt w11 w9.heap.size (statL (runD S xs 0) (.slice a9 (runD S xs 0).log.length c9)) := by rw [← hw11]; exact Z10.row _ rfl
  have O11 : Own w w11 b S2 (runD S xs 0) vp (.slice none 0 0) (.slice none 0 0) := by rw [← hw11]; exact O10.side (grown_setCells _ _ _ _ _ (hself _ _)) hws hbs as0
  have HT11 := Lib.hid T11
  have HO11 := Lib.hid O11
  have HW10 := Lib.hid hw10
  have HW11 := Lib.hid hw11
  have Hbs := Lib.hid hbs
  have Hws := Lib.hid hws
  have Has := Lib.hid as0
  have HSav := Lib.hid hSav
  have Hself := Lib.hid hself
  clear hO9 hb9 O9 hw10 b10 z10 Z10 hbs hws hS2 hSav as0 O10 hself hw11 T11 O11 HO5
  go_upto_region 7 with (refine wpList_store_mid rfl 62 (.tmp 7) (.tmp 23) rfl w9.heap.size 0 (statL (runD S xs 0) (.slice a9 (runD S xs 0).log.length c9)).toArray rfl rfl (by rw [HW10.out]; exact HTH.out) HI27.out HON.out ?_)
  rw [HW10.out, HW11.out]
  clear HW10 HW11 HTH HON
  go_wp2_with fail
  go_loopw [26] (fun i wr => LRel w b w9.heap.size S2 S xs vp i wr) (fun i _ => xs.length - (intOf i).toNat)
  case atStart => exact ⟨0, Nat.zero_le _, rfl, ⟨_, _, HO11.out⟩, _, ⟨_, _, rfl⟩, HT11.out⟩
  case round =>
    clear HO11 HT11
    obtain ⟨k, hk, rfl, ⟨vl, vg, hO⟩, v0, ⟨a0, c0, hv0⟩, hT0⟩ := hrel
    subst hv0
    have HO := Lib.hid hO; have HT0 := Lib.hid hT0
    by_cases hk1 : k < xs.length
    · have hk2 : (k : Int) < (xs.length : Int) := by omega
      have hk3 : (0 : Int) ≤ (k : Int) := by omega
      have hwk : IntKind.i64.wrap ((k : Int) + 1) = (k : Int) + 1 := IntWalk.i64_in _ (by omega)
      clear hO hT0
      go_upto_region 9 with (fail)
      obtain ⟨wo, hwo⟩ : ∃ x, x = wr := ⟨_, rfl⟩
      subst hwo
      obtain ⟨bx, ox, hla, hrow, hbx⟩ := recs_row HX.out hk1
      subst hla
      obtain ⟨I, hI⟩ : ∃ x, xs.getD k default = x := ⟨_, rfl⟩
      rw [hI] at hrow
      have HRW : Hid (wo.rangeAt bx (ox + k * 12) (inL I)) := Lib.hid (fun j v hj => by rw [HO.out.below.cell (p := ⟨bx, ox + k * 12 + j, none⟩) hbx]; exact hrow j v hj)
      have HIok : Hid (InpOk I) := Lib.hid (HOK.out I (by rw [← hI, List.getD_eq_getElem?_getD, List.getElem?_eq_getElem hk1]; exact List.getElem_mem hk1))
      obtain ⟨w7, hw7⟩ : ∃ x, wo.alloc (.cells #[.string ⟨#[]⟩, .int .i32 0, .int .i32 0, .int .i32 0, .int .i64 0, .int .i64 0, .int .i64 0, .int .i64 0, .bool false, .int .i64 0, .bool false, .int .i64 0] 48) = x := ⟨_, rfl⟩
      have b7 : Below wo.heap.size wo w7 := hw7 ▸ (Below.refl _ _).alloc (Nat.le_refl _) _
      have Z7 : CellsAt w7 wo.heap.size [.string ⟨#[]⟩, .int .i32 0, .int .i32 0, .int .i32 0, .int .i64 0, .int .i64 0, .int .i64 0, .int .i64 0, .bool false, .int .i64 0, .bool false, .int .i64 0] := hw7 ▸ CellsAt.new' rfl rfl
      have HTH : Hid (w7.there wo.heap.size 0 (inL I).toArray.size) := Lib.hid (Z7.there (n := 12) (Nat.le_refl _))
      have HON : Hid ((inL I).toArray.all (·.oneCell') = true) := Lib.hid (by kernel_rfl)
      obtain ⟨w8, hw8⟩ : ∃ x, w7.setCells wo.heap.size 0 (inL I).toArray.toList = x := ⟨_, rfl⟩
      have C8 : CellsAt w8 wo.heap.size (inL I) := by rw [← hw8]; exact Z7.row (inL I) rfl
      have b8 : Below wo.heap.size wo w8 := by rw [← hw8]; exact below_setCells (Nat.le_refl _) _ 0 _ b7
      have O8 := HO.out.call b8
      have T8 := HT0.out.call b8
      have hbt : b ≠ wo.heap.size := by have := HO.out.wat.lt; omega
      have hst : w9.heap.size < wo.heap.size := HT0.out.lt
      have HC8 := Lib.hid C8
      have HO8 := Lib.hid O8
      have HT8 := Lib.hid T8
      have HW7 := Lib.hid hw7
      have HW8 := Lib.hid hw8
      have Hbt := Lib.hid hbt
      have Hst := Lib.hid hst
      have HIe := Lib.hid hI
      clear hrow hI hw7 b7 Z7 hw8 C8 b8 O8 T8 hbt hst HO HT0
      go_upto_region 10 with (first | (refine wpList_load_mid rfl 48 (.tmp 28) rfl _ _ rfl _ _ HRW.out Tryz.underlying48 rfl HI12.out ?_) | (refine wpList_store_mid rfl 48 (.tmp 9) (.tmp 29) rfl wo.heap.size 0 (inL I).toArray rfl rfl (by rw [HW7.out]; exact HTH.out) HI12.out HON.out ?_))
      rw [HW7.out, HW8.out]
      clear HW7 HW8 HTH HON HRW
      go_wp2_with (refine wpList_load_mid rfl 48 (.tmp 9) rfl wo.heap.size 0 rfl _ _ HC8.out.range Tryz.underlying48 rfl HI12.out ?_)
      have hfr := wframe_is (I := I) HO8.out.wat (by rw [HSav.out]; exact HSO.out.withAv _) (by rw [HSav.out]; exact (runD_good HSO.out xs k).withAv _) HIok.out
      have e1 : frameL S2 (runD S xs k) I = runD S xs (k + 1) := by rw [HSav.out, ← HIe.out]; exact frameL_av S _ _ _
      rw [e1] at hfr
      obtain ⟨D0, hD0⟩ : ∃ x, runD S xs k = x := ⟨_, rfl⟩
      obtain ⟨D1, hD1⟩ : ∃ x, runD S xs (k + 1) = x := ⟨_, rfl⟩
      rw [hD1] at hfr
      rw [hD0] at HT8
      have HD1 := Lib.hid hD1
      have e2 : D1 = frameL S D0 I := by rw [← hD1, ← hD0, ← HIe.out]; rfl
      have HMO : Hid (ModeOk D1.mm D1.mp D1.mg) := Lib.hid (by rw [← hD1]; exact (runD_good HSO.out xs (k + 1)).mode)
      have HMG : Hid (D1.mg = I.ground) := Lib.hid (by rw [e2]; exact frame_mg S D0 I)
      have HMM : Hid (D1.mm = D0.mm ∨ D1.mm = I.ask ∨ (D0.mm = 3 ∧ I.ground = false)) := Lib.hid (by rw [e2]; exact frame_mm S D0 I)
      refine hfr.mono ?_
      clear hfr e1 hD1 e2 hD0
      rintro e12 w12 ⟨v12, vl12, vg12, rfl, hW12, hg12, hO12, -⟩
      obtain ⟨a12, c12, hv12⟩ := own_sliceW hO12
      subst hv12
      have O12 := HO8.out.frame hg12 hW12
      have T12 := far_cells HT8.out hg12 (Ne.symm Hbs.out)
      have C12 := far_cells HC8.out hg12 (Ne.symm Hbt.out)
      obtain ⟨w13, hw13⟩ : ∃ x, w12.alloc (.cells #[.int .i64 0, .int .i64 0, .bool false, .bool false, .int .i64 0, .bool false, .int .i64 0, .int .i64 0, .bool false, .int .i64 0, .int .i64 0, .bool false, .int .i64 0, .int .i64 0, .bool false, .int .i64 0, .int .i64 0, .int .i64 0, .bool false, .int .i32 0, .int .i32 0, .int .i32 0, .int .i32 0, .int .i32 0, .int .i32 0, .int .i32 0, .slice none 0 0] 62) = x := ⟨_, rfl⟩
      have b13 : Below w12.heap.size w12 w13 := hw13 ▸ (Below.refl _ _).alloc (Nat.le_refl _) _
      have Z13 : CellsAt w13 w12.heap.size [.int .i64 0, .int .i64 0, .bool false, .bool false, .int .i64 0, .bool false, .int .i64 0, .int .i64 0, .bool false, .int .i64 0, .int .i64 0, .bool false, .int .i64 0, .int .i64 0, .bool false, .int .i64 0, .int .i64 0, .int .i64 0, .bool false, .int .i32 0, .int .i32 0, .int .i32 0, .int .i32 0, .int .i32 0, .int .i32 0, .int .i32 0, .slice none 0 0] := hw13 ▸ CellsAt.new' rfl rfl
      have HTH : Hid (w13.there w12.heap.size 0 (statL D1 (.slice a12 D1.log.length c12)).toArray.size) := Lib.hid (Z13.there (n := 27) (Nat.le_refl _))
      have HON : Hid ((statL D1 (.slice a12 D1.log.length c12)).toArray.all (·.oneCell') = true) := Lib.hid (by kernel_rfl)
      obtain ⟨w14, hw14⟩ : ∃ x, w13.setCells w12.heap.size 0 (statL D1 (.slice a12 D1.log.length c12)).toArray.toList = x := ⟨_, rfl⟩
      have U14 : CellsAt w14 w12.heap.size (statL D1 (.slice a12 D1.log.length c12)) := by rw [← hw14]; exact Z13.row _ rfl
      have b14 : Below w12.heap.size w12 w14 := by rw [← hw14]; exact below_setCells (Nat.le_refl _) _ 0 _ b13
      have O14 := O12.call b14
      have T14 := T12.call b14
      have C14 := C12.call b14
      have hcc : wo.heap.size < w12.heap.size := C12.lt
      have hss : w9.heap.size < w12.heap.size := T12.lt
      have HU14 := Lib.hid U14
      have HO14 := Lib.hid O14
      have HT14 := Lib.hid T14
      have HW13 := Lib.hid hw13
      have HW14 := Lib.hid hw14
      have s1 : w14.cell? ⟨w12.heap.size, 1, none⟩ = some (.int .i64 D1.mm) := U14.at_ 1 rfl
      have s2 : w14.cell? ⟨w12.heap.size, 2, none⟩ = some (.bool D1.mp) := U14.at_ 2 rfl
      have s3 : w14.cell? ⟨w12.heap.size, 3, none⟩ = some (.bool D1.mg) := U14.at_ 3 rfl
      have r1 : w14.cell? ⟨w9.heap.size, 1, none⟩ = some (.int .i64 D0.mm) := T14.at_ 1 rfl
      have i8 : w14.cell? ⟨wo.heap.size, 8, none⟩ = some (.bool I.ground) := C14.at_ 8 rfl
      have i9 : w14.cell? ⟨wo.heap.size, 9, none⟩ = some (.int .i64 I.ask) := C14.at_ 9 rfl
      have uz := U14.lt; have tz := T14.lt; have cz := C14.lt
      have HEND : Hid (∀ W, W = w14.setCells w9.heap.size 0 (statL D1 (.slice a12 D1.log.length c12)) → LRel w b w9.heap.size S2 S xs vp (.int .i64 ((k : Int) + 1)) W) := Lib.hid (fun W hW => by
        subst hW
        have G := grown_setCells w9.heap.size (statL D1 (.slice a12 D1.log.length c12)) 0 w14 w14 (Hself.out _ _)
        refine ⟨k + 1, by omega, by simp, ⟨_, _, by rw [HD1.out]; exact HO14.out.side G Hws.out Hbs.out Has.out⟩, .slice a12 D1.log.length c12, ⟨a12, c12, by rw [HD1.out]⟩, ?_⟩
        rw [HD1.out]
        exact HT14.out.row _ rfl)
      have HTW : Hid (w14.there w9.heap.size 0 (statL D1 (.slice a12 D1.log.length c12)).toArray.size) := Lib.hid (T14.there (n := 27) (Nat.le_refl _))
      have HUR := Lib.hid U14.range
      clear hW12 hg12 hO12 O12 T12 C12 hw13 b13 Z13 hw14 U14 b14 O14 T14 C14 hcc hss HO8 HC8 HT8
      go_upto_region 11 with (refine wpList_store_mid rfl 62 (.tmp 10) (.tmp 32) rfl w12.heap.size 0 (statL D1 (.slice a12 D1.log.length c12)).toArray rfl rfl (by rw [HW13.out]; exact HTH.out) HI27.out HON.out ?_)
      rw [HW13.out, HW14.out]
      clear HW13 HW14 HTH
      rw [HMG.out] at s3
      obtain ⟨m1, hm1⟩ : ∃ x, D1.mm = x := ⟨_, rfl⟩
      obtain ⟨pp, hpp⟩ : ∃ x, D1.mp = x := ⟨_, rfl⟩
      obtain ⟨m0, hm0⟩ : ∃ x, D0.mm = x := ⟨_, rfl⟩
      obtain ⟨gr, hgr⟩ : ∃ x, I.ground = x := ⟨_, rfl⟩
      obtain ⟨ak, hak⟩ : ∃ x, I.ask = x := ⟨_, rfl⟩
      have hmo := HMO.out
      have hmm := HMM.out
      rw [HMG.out] at hmo
      rw [hm1, hpp, hgr] at hmo
      rw [hm1, hm0, hak, hgr] at hmm
      rw [hm1] at s1; rw [hpp] at s2; rw [hgr] at s3 i8; rw [hm0] at r1; rw [hak] at i9
      clear hm1 hpp hm0 hgr hak HMO HMG HMM
      have hA : m1 = 1 ∨ (m1 = 2 ∧ pp = true) ∨ (m1 = 3 ∧ gr = true) := hmo
      have hB : m1 = m0 ∨ (m1 = ak ∧ (m1 == m0) = false) ∨ ((m1 == m0) = false ∧ (m1 == ak) = false ∧ m0 = 3 ∧ gr = false) := by
        by_cases h1 : m1 = m0
        · exact .inl h1
        · have h1' : (m1 == m0) = false := by simpa using h1
          by_cases h2 : m1 = ak
          · exact .inr (.inl ⟨h2, h1'⟩)
          · have h2' : (m1 == ak) = false := by simpa using h2
            rcases hmm with h | h | h
            · exact absurd h h1
            · exact absurd h h2
            · exact .inr (.inr ⟨h1', h2', h⟩)
      clear hmo hmm
      simp only [Act.put]
      go_cut [26, 62] from 27 (fun s26 s62 wx => s26 = .int .i64 k ∧ s62 = .bool false ∧ wx = w14)
      case first =>
        rcases hA with rfl | ⟨rfl, rfl⟩ | ⟨rfl, rfl⟩ <;> clear hB
        · cases gr <;> (go_wp2_with fail; all_goals (go_meet; exact ⟨rfl, rfl, rfl⟩))
        · cases gr <;> (go_wp2_with fail; all_goals (go_meet; exact ⟨rfl, rfl, rfl⟩))
        · (go_wp2_with fail; all_goals (go_meet; exact ⟨rfl, rfl, rfl⟩))
      case rest =>
      obtain ⟨rfl, rfl, rfl⟩ := hcut
      clear hA
      go_upto_region 13 with (fail)
      go_cut [26, 89] from 27 (fun s26 s89 wx => s26 = .int .i64 k ∧ s89 = .bool false ∧ wx = wc)
      case first =>
        rcases hB with rfl | ⟨rfl, d1⟩ | ⟨d1, d2, rfl, rfl⟩
        · (go_wp2_with fail; all_goals (go_meet; exact ⟨rfl, rfl, rfl⟩))
        · (go_wp2_with fail; all_goals (go_meet; exact ⟨rfl, rfl, rfl⟩))
        · (go_wp2_with fail; all_goals (go_meet; exact ⟨rfl, rfl, rfl⟩))
      case rest =>
      obtain ⟨rfl, rfl, rfl⟩ := hcut
      clear hB s1 s2 s3 r1 i8 i9 uz tz cz
      go_upto_region 16 with (first | (refine wpList_load_mid rfl 62 (.tmp 10) rfl w12.heap.size 0 rfl _ _ HUR.out Tryz.underlying62 rfl HI27.out ?_) | (refine wpList_store_mid rfl 62 (.tmp 7) (.tmp 90) rfl w9.heap.size 0 (statL D1 (.slice a12 D1.log.length c12)).toArray rfl rfl HTW.out HI27.out HON.out ?_))
      simp only [Act.put]
      go_wp2_with fail
      go_roundw
      (case rel => exact HEND.out _ rfl)
      (case measure => simp [intOf]; omega)
    · obtain rfl : k = xs.length := by omega
      have HB := Lib.hid hO.below
      clear hO hT0
      go_wp2_with fail
      go_ret
      exact ⟨rfl, HB.out⟩
theorem law (gain drag low high rate soft P I D lo hi m0 m1 m2 m3 m4 up down most sum wide full : Int) (pa : Option Addr) (pl pc : Nat) (ps : List PointR) (oh ol bits trim : Int) (la : Option Addr) (ll lc : Nat) (ls : List Inp) (w : World) (hgain : -2147483648 ≤ gain ∧ gain ≤ 2147483647) (hdrag : -9223372036854775808 ≤ drag ∧ drag ≤ 9223372036854775807) (hlow : -2147483648 ≤ low ∧ low ≤ 2147483647) (hhigh : -2147483648 ≤ high ∧ high ≤ 2147483647) (hrate : -2147483648 ≤ rate ∧ rate ≤ 2147483647) (hsoft : -9223372036854775808 ≤ soft ∧ soft ≤ 9223372036854775807) (hP : -2147483648 ≤ P ∧ P ≤ 2147483647) (hI : -2147483648 ≤ I ∧ I ≤ 2147483647) (hD : -2147483648 ≤ D ∧ D ≤ 2147483647) (hlo : -2147483648 ≤ lo ∧ lo ≤ 2147483647) (hhi : -2147483648 ≤ hi ∧ hi ≤ 2147483647) (hm0 : -2147483648 ≤ m0 ∧ m0 ≤ 2147483647) (hm1 : -2147483648 ≤ m1 ∧ m1 ≤ 2147483647) (hm2 : -2147483648 ≤ m2 ∧ m2 ≤ 2147483647) (hm3 : -2147483648 ≤ m3 ∧ m3 ≤ 2147483647) (hm4 : -2147483648 ≤ m4 ∧ m4 ≤ 2147483647) (hup : -9223372036854775808 ≤ up ∧ up ≤ 9223372036854775807) (hdown : -9223372036854775808 ≤ down ∧ down ≤ 9223372036854775807) (hmost : -9223372036854775808 ≤ most ∧ most ≤ 9223372036854775807) (hsum : -2147483648 ≤ sum ∧ sum ≤ 2147483647) (hwide : -2147483648 ≤ wide ∧ wide ≤ 2147483647) (hfull : -2147483648 ≤ full ∧ full ≤ 2147483647) (hps : IsRecs 3 pointLay pointFit w pa pl pc ps) (hoh : -2147483648 ≤ oh ∧ oh ≤ 2147483647) (hol : -2147483648 ≤ ol ∧ ol ≤ 2147483647) (hbits : -9223372036854775808 ≤ bits ∧ bits ≤ 9223372036854775807) (htrim : -2147483648 ≤ trim ∧ trim ≤ 2147483647) (hls : IsRecs 12 inL InpOk w la ll lc ls) (hcap : ll ≤ lc ∧ lc * 96 ≤ 140737488351232) :
    Calls Tryz.prog 4 #[.agg #[.int .i32 gain, .int .i64 drag, .int .i32 low, .int .i32 high, .int .i32 rate, .int .i64 soft, .int .i32 P, .int .i32 I, .int .i32 D, .int .i32 lo, .int .i32 hi, .int .i32 m0, .int .i32 m1, .int .i32 m2, .int .i32 m3, .int .i32 m4, .int .i64 up, .int .i64 down, .int .i64 most, .int .i32 sum, .int .i32 wide, .int .i32 full, .slice pa pl pc, .int .i32 oh, .int .i32 ol, .int .i64 bits, .int .i32 trim], .slice la ll lc] w fun e w' => e = .returned (.bool true) ∧ Below w.heap.size w w' := by
  obtain ⟨p1, p2, p3⟩ := isRecs_recs hps (by omega) pointLay_len
  obtain ⟨l1, l2, l3⟩ := isRecs_recs hls (by omega) inL_len
  have h := @way { gain := gain, drag := drag, low := low, high := high, rate := rate, soft := soft, P := P, I := I, D := D, lo := lo, hi := hi, m0 := m0, m1 := m1, m2 := m2, m3 := m3, m4 := m4, up := up, down := down, most := most, sum := sum, wide := wide, full := full, oh := oh, ol := ol, bits := bits, trim := trim, prof := ps.take pl, av := fun _ => False } pa pc (ls.take ll) la lc w (by rw [show (ps.take pl).length = pl from p2]; exact p1) (by have h2 := hps; rcases h2 with ⟨-, h2, -⟩ | ⟨_, -, h2, h3, -⟩ <;> (show (ps.take pl).length ≤ _; rw [p2]; first | omega | (simp only [maxLen] at h3; omega))) ⟨hgain, hdrag, hlow, hhigh, hrate, hsoft, hP, hI, hD, hlo, hhi, hm0, hm1, hm2, hm3, hm4, hup, hdown, hmost, hsum, hwide, hfull, hoh, hol, hbits, htrim, p3⟩ (fun _ h => h) (by rw [l2]; exact l1) l3 (by rw [l2]; omega)
  rw [l2] at h
  rw [show (Stp.prof { gain := gain, drag := drag, low := low, high := high, rate := rate, soft := soft, P := P, I := I, D := D, lo := lo, hi := hi, m0 := m0, m1 := m1, m2 := m2, m3 := m3, m4 := m4, up := up, down := down, most := most, sum := sum, wide := wide, full := full, oh := oh, ol := ol, bits := bits, trim := trim, prof := ps.take pl, av := fun _ => False }) = ps.take pl from rfl, p2] at h
  exact h
theorem lifted (os : Os) (started : os.Started) (H : Type) (enc : TypeId × Value → H) :
    ReturnsInHanded {} Tryz.checked os 4 .any (Rows.topGroundSpec.pre6 enc Tryz.prog Tryz.f4 Rows.topGroundRow.domain false) (Rows.topGroundSpec.post enc Tryz.prog Tryz.f4 false true false false) := by
  refine returnsInHanded_of_change_sized (C := Tryz.checked) own started (by kernel_rfl) Tryz.func4
    (ChangeSpec.witness6 (enc := enc) (C := Tryz.checked) false ⟨#[], #[.agg #[.int .i32 0, .int .i64 0, .int .i32 0, .int .i32 0, .int .i32 0, .int .i64 0, .int .i32 0, .int .i32 0, .int .i32 0, .int .i32 0, .int .i32 0, .int .i32 0, .int .i32 0, .int .i32 0, .int .i32 0, .int .i32 0, .int .i64 0, .int .i64 0, .int .i64 0, .int .i32 0, .int .i32 0, .int .i32 0, .slice none 0 0, .int .i32 0, .int .i32 0, .int .i64 0, .int .i32 0], .slice none 0 0], []⟩ 8 (by kernel_rfl) (by kernel_rfl) (by kernel_rfl) (by kernel_rfl)) ?_
  intro W base args ds gs before hval0 hW hcnd hsz0 _
  have hsz : (DataW.weightsEach Tryz.prog (Tryz.f4.params.toList ++ Rows.topGroundSpec.plain.varTypes Tryz.prog) (ds ++ gs)).all (· ≤ reachBytes) = true := hsz0
  have hval : ∀ (j : Nat) t v, Tryz.f4.params[j]? = some t → args[j]? = some v → Value.okWide Tryz.prog W .any base t v := hval0
  have hW' := hW
  obtain ⟨p, q, hA0, hV, rfl, hfz, hnd⟩ := hW
  have hA : DataW.TrodAll enc Tryz.prog W 0 (fun _ => true) true Tryz.f4.params.toList args.toList ds p := hA0
  rw [Tryz.params4] at hA hval hsz
  obtain ⟨v0, vs0, d0, ds0, p0, q0, hargs, rfl, rfl, h0, r0⟩ := trodAll_cons hA
  obtain ⟨v1, vs1, d1, ds1, p1, q1, rfl, rfl, rfl, h1, r1⟩ := trodAll_cons r0
  obtain ⟨rfl, rfl, rfl⟩ := trodAll_nil r1
  obtain rfl : args = #[v0, v1] := by cases args; simp_all
  obtain ⟨rfl, rfl⟩ := trodVars_none hV
  have k0 := h0
  have lt0 : ∀ x ∈ p0, x.block < W.heap.size := by obtain ⟨m, hm⟩ := k0; exact DataW.trod_lt m _ _ _ hm
  have k1 := h1
  have lt1 : ∀ x ∈ p1, x.block < W.heap.size := by obtain ⟨m, hm⟩ := k1; exact DataW.trod_lt m _ _ _ hm
  obtain ⟨cs0, rfl, lf0_0⟩ := open_flat 12 [21, 3, 21, 21, 21, 3, 21, 21, 21, 21, 21, 21, 21, 21, 21, 21, 3, 3, 3, 21, 21, 21, 35, 21, 21, 3, 21] (by kernel_rfl) (by kernel_rfl) (by kernel_rfl) (hval 0 37 v0 rfl rfl) h0
  obtain ⟨c0_0, r0_0, rfl, y0_0, lf0_1⟩ := leafs_cons lf0_0
  obtain ⟨a0_0, rfl, w0_0⟩ := leaf_int Tryz.underlying21 y0_0
  obtain ⟨c0_1, r0_1, rfl, y0_1, lf0_2⟩ := leafs_cons lf0_1
  obtain ⟨a0_1, rfl, w0_1⟩ := leaf_int Tryz.underlying3 y0_1
  obtain ⟨c0_2, r0_2, rfl, y0_2, lf0_3⟩ := leafs_cons lf0_2
  obtain ⟨a0_2, rfl, w0_2⟩ := leaf_int Tryz.underlying21 y0_2
  obtain ⟨c0_3, r0_3, rfl, y0_3, lf0_4⟩ := leafs_cons lf0_3
  obtain ⟨a0_3, rfl, w0_3⟩ := leaf_int Tryz.underlying21 y0_3
  obtain ⟨c0_4, r0_4, rfl, y0_4, lf0_5⟩ := leafs_cons lf0_4
  obtain ⟨a0_4, rfl, w0_4⟩ := leaf_int Tryz.underlying21 y0_4
  obtain ⟨c0_5, r0_5, rfl, y0_5, lf0_6⟩ := leafs_cons lf0_5
  obtain ⟨a0_5, rfl, w0_5⟩ := leaf_int Tryz.underlying3 y0_5
  obtain ⟨c0_6, r0_6, rfl, y0_6, lf0_7⟩ := leafs_cons lf0_6
  obtain ⟨a0_6, rfl, w0_6⟩ := leaf_int Tryz.underlying21 y0_6
  obtain ⟨c0_7, r0_7, rfl, y0_7, lf0_8⟩ := leafs_cons lf0_7
  obtain ⟨a0_7, rfl, w0_7⟩ := leaf_int Tryz.underlying21 y0_7
  obtain ⟨c0_8, r0_8, rfl, y0_8, lf0_9⟩ := leafs_cons lf0_8
  obtain ⟨a0_8, rfl, w0_8⟩ := leaf_int Tryz.underlying21 y0_8
  obtain ⟨c0_9, r0_9, rfl, y0_9, lf0_10⟩ := leafs_cons lf0_9
  obtain ⟨a0_9, rfl, w0_9⟩ := leaf_int Tryz.underlying21 y0_9
  obtain ⟨c0_10, r0_10, rfl, y0_10, lf0_11⟩ := leafs_cons lf0_10
  obtain ⟨a0_10, rfl, w0_10⟩ := leaf_int Tryz.underlying21 y0_10
  obtain ⟨c0_11, r0_11, rfl, y0_11, lf0_12⟩ := leafs_cons lf0_11
  obtain ⟨a0_11, rfl, w0_11⟩ := leaf_int Tryz.underlying21 y0_11
  obtain ⟨c0_12, r0_12, rfl, y0_12, lf0_13⟩ := leafs_cons lf0_12
  obtain ⟨a0_12, rfl, w0_12⟩ := leaf_int Tryz.underlying21 y0_12
  obtain ⟨c0_13, r0_13, rfl, y0_13, lf0_14⟩ := leafs_cons lf0_13
  obtain ⟨a0_13, rfl, w0_13⟩ := leaf_int Tryz.underlying21 y0_13
  obtain ⟨c0_14, r0_14, rfl, y0_14, lf0_15⟩ := leafs_cons lf0_14
  obtain ⟨a0_14, rfl, w0_14⟩ := leaf_int Tryz.underlying21 y0_14
  obtain ⟨c0_15, r0_15, rfl, y0_15, lf0_16⟩ := leafs_cons lf0_15
  obtain ⟨a0_15, rfl, w0_15⟩ := leaf_int Tryz.underlying21 y0_15
  obtain ⟨c0_16, r0_16, rfl, y0_16, lf0_17⟩ := leafs_cons lf0_16
  obtain ⟨a0_16, rfl, w0_16⟩ := leaf_int Tryz.underlying3 y0_16
  obtain ⟨c0_17, r0_17, rfl, y0_17, lf0_18⟩ := leafs_cons lf0_17
  obtain ⟨a0_17, rfl, w0_17⟩ := leaf_int Tryz.underlying3 y0_17
  obtain ⟨c0_18, r0_18, rfl, y0_18, lf0_19⟩ := leafs_cons lf0_18
  obtain ⟨a0_18, rfl, w0_18⟩ := leaf_int Tryz.underlying3 y0_18
  obtain ⟨c0_19, r0_19, rfl, y0_19, lf0_20⟩ := leafs_cons lf0_19
  obtain ⟨a0_19, rfl, w0_19⟩ := leaf_int Tryz.underlying21 y0_19
  obtain ⟨c0_20, r0_20, rfl, y0_20, lf0_21⟩ := leafs_cons lf0_20
  obtain ⟨a0_20, rfl, w0_20⟩ := leaf_int Tryz.underlying21 y0_20
  obtain ⟨c0_21, r0_21, rfl, y0_21, lf0_22⟩ := leafs_cons lf0_21
  obtain ⟨a0_21, rfl, w0_21⟩ := leaf_int Tryz.underlying21 y0_21
  obtain ⟨c0_22, r0_22, rfl, y0_22, lf0_23⟩ := leafs_cons lf0_22
  obtain ⟨a0_22, len0_22, cap0_22, z0_22, rfl, w0_22⟩ := leaf_recs (ts := [21, 3, 21]) 3 pointLay pointFit 12 Tryz.underlying35 (by kernel_rfl) (by kernel_rfl) rfl point_dec y0_22
  obtain ⟨c0_23, r0_23, rfl, y0_23, lf0_24⟩ := leafs_cons lf0_23
  obtain ⟨a0_23, rfl, w0_23⟩ := leaf_int Tryz.underlying21 y0_23
  obtain ⟨c0_24, r0_24, rfl, y0_24, lf0_25⟩ := leafs_cons lf0_24
  obtain ⟨a0_24, rfl, w0_24⟩ := leaf_int Tryz.underlying21 y0_24
  obtain ⟨c0_25, r0_25, rfl, y0_25, lf0_26⟩ := leafs_cons lf0_25
  obtain ⟨a0_25, rfl, w0_25⟩ := leaf_int Tryz.underlying3 y0_25
  obtain ⟨c0_26, r0_26, rfl, y0_26, lf0_27⟩ := leafs_cons lf0_26
  obtain ⟨a0_26, rfl, w0_26⟩ := leaf_int Tryz.underlying21 y0_26
  obtain rfl := leafs_nil lf0_27
  obtain ⟨sa1, sl1, sc1, rfl⟩ := okWide_slice Tryz.underlying38 (hval 1 38 v1 rfl rfl)
  obtain ⟨a1, len1, cap1, z1, e1, w1⟩ := leaf_recsW (ts := [9, 21, 21, 21, 3, 3, 3, 3, 4, 3, 4, 3]) 12 inL InpOk 12 (Tryz.underlying38) (by kernel_rfl) (by kernel_rfl) rfl inp_dec (by obtain ⟨fuel, hf⟩ := h1; exact ⟨fuel, _, by simpa [Value.cells] using hf, weights_of hsz (j := 1) (t := 38) rfl rfl⟩)
  simp only [Value.slice.injEq] at e1
  obtain ⟨rfl, rfl, rfl⟩ := e1
  have R1 := cap_le (B := 96) Tryz.underlying38 k1 (fun elems spare hd => by have := sized_slice hsz (j := 1) (t := 38) (e := 48) (elems := elems) (spare := spare) rfl (by rw [← hd]; rfl) Tryz.underlying38; exact this)
  clear hA0 hval0
  refine (law a0_0 a0_1 a0_2 a0_3 a0_4 a0_5 a0_6 a0_7 a0_8 a0_9 a0_10 a0_11 a0_12 a0_13 a0_14 a0_15 a0_16 a0_17 a0_18 a0_19 a0_20 a0_21 a0_22 len0_22 cap0_22 z0_22 a0_23 a0_24 a0_25 a0_26 sa1 sl1 sc1 z1 W (bounds_i32 w0_0) (bounds_i64 w0_1) (bounds_i32 w0_2) (bounds_i32 w0_3) (bounds_i32 w0_4) (bounds_i64 w0_5) (bounds_i32 w0_6) (bounds_i32 w0_7) (bounds_i32 w0_8) (bounds_i32 w0_9) (bounds_i32 w0_10) (bounds_i32 w0_11) (bounds_i32 w0_12) (bounds_i32 w0_13) (bounds_i32 w0_14) (bounds_i32 w0_15) (bounds_i64 w0_16) (bounds_i64 w0_17) (bounds_i64 w0_18) (bounds_i32 w0_19) (bounds_i32 w0_20) (bounds_i32 w0_21) w0_22 (bounds_i32 w0_23) (bounds_i32 w0_24) (bounds_i64 w0_25) (bounds_i32 w0_26) w1 R1).mono fun e W' ⟨he, bel⟩ => ?_
  subst he
  exact ⟨_, rfl, _, _, _, [], _, [], hW', trodAll_mk1 (shut_bool Tryz.underlying4 _), (trodAll_cons_mk (Below.trod laidOut (by kernel_rfl) (of_decide_eq_true (by kernel_rfl)) k0 bel lt0) (trodAll_cons_mk (Below.trod laidOut (by kernel_rfl) (of_decide_eq_true (by kernel_rfl)) k1 bel lt1) trodAll_mk0)), rfl, bel.frame _, fun h => by cases h⟩
theorem over : Rows.topGroundRow.holds Tryz.pinned (OpenSpec.ofChange Rows.topGroundSpec) :=
  OpenClaim.holds_of_wide 4 Tryz.f4 rfl rfl rfl rfl rfl rfl rfl ⟨rfl, rfl, rfl, rfl, rfl⟩ rfl rfl rfl rfl rfl (by kernel_rfl) Tryz.func4 (by kernel_rfl)
    (of_decide_eq_true (by kernel_rfl)) (by unfold Func.isWrapper; first | (rw [if_pos (by decide +kernel)]; kernel_rfl) | (rw [if_neg (by decide +kernel)]; exact ⟨rfl, rfl⟩))
    (fun os started H enc _ => lifted os started H enc)
theorem proved : Rows.TopGroundSaid := over
#print axioms proved
end Go.Proofs.YtlagmebnjagoaaaGreat.topGround
