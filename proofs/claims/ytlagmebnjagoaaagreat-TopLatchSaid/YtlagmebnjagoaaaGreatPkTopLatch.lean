/- TopLatch: whatever the setup and the inputs are, the law answers true and leaves memory as it was. -/
import Derived.Test.YtlagmebnjagoaaaGreatPkZh
set_option maxHeartbeats 16000000
set_option maxRecDepth 100000
namespace Go.Proofs.YtlagmebnjagoaaaGreat.topLatch
open Go.ChangeShapes Go.WideShapes Go.ChangeAt Go.RowKit Go.Proofs.YtlagmebnjagoaaaGreat Go.Proofs.YtlagmebnjagoaaaGreat.Open
set_option linter.unusedVariables false
def LRel (w : World) (b f : Nat) (S : Stp) (S0 : Stp) (xs : List Inp) (vp i : Value) (wr : World) : Prop := ∃ k : Nat, k ≤ xs.length ∧ i = .int .i64 k ∧ (∃ vl vg, Own w wr b S (runD S0 xs k) vp vl vg) ∧ CellsAt wr f (boolc fun j => ((runD S0 xs k).team j).2.1)
/-- within a round: the first j lanes are looked at -/
def LIn (w : World) (b f g s : Nat) (S : Stp) (D : Dyn) (I : Inp) (F0 : Nat → Bool) (vp vl vg v i : Value) (wr : World) : Prop := ∃ j : Nat, j ≤ 4 ∧ i = .int .i64 j ∧ Own w wr b S D vp vl vg ∧ CellsAt wr f (boolc (upTo (fun j => (D.team j).2.1) F0 j)) ∧ CellsAt wr g (inL I) ∧ CellsAt wr s (statL D v)
theorem lsplit {mm rs n : Int} {gr fl tf : Bool} (h : fl = true → tf = false → mm = 3 ∧ rs = n ∧ gr = true) : (mm = 3 ∧ rs = n ∧ gr = true) ∨ ((mm == 3) = false ∧ (fl = true → tf = true)) ∨ (mm = 3 ∧ (rs == n) = false ∧ (fl = true → tf = true)) ∨ (mm = 3 ∧ rs = n ∧ gr = false ∧ (fl = true → tf = true)) := by
  by_cases hR : mm = 3 ∧ rs = n ∧ gr = true
  · exact .inl hR
  · have hno : fl = true → tf = true := fun h1 => by
      cases tf with
      | true => rfl
      | false => exact absurd (h h1 rfl) hR
    by_cases h1 : mm = 3
    · by_cases h2 : rs = n
      · cases gr with
        | false => exact .inr (.inr (.inr ⟨h1, h2, rfl, hno⟩))
        | true => exact absurd ⟨h1, h2, rfl⟩ hR
      · exact .inr (.inr (.inl ⟨h1, by simpa using h2, hno⟩))
    · exact .inr (.inl ⟨by simpa using h1, hno⟩)
theorem lfm {tm : Int} {tf : Bool} (h : tf = true → tm ≠ 1) (e : tf = true) : (tm == 1) = false := by simpa using h e
theorem lcell {wr : World} {f j : Nat} {F0 T : Nat → Bool} (h0 : j = 0 ∨ j = 1 ∨ j = 2 ∨ j = 3) (hF : CellsAt wr f (boolc (upTo T F0 j))) : wr.cell? ⟨f, j, none⟩ = some (.bool (F0 j)) := by
  rcases h0 with rfl | rfl | rfl | rfl <;> exact hF.at_ _ rfl
theorem lstep {w wr : World} {b f g s : Nat} {S : Stp} {D : Dyn} {I : Inp} {F0 : Nat → Bool} {vp vl vg v : Value} {j : Nat} {tf : Bool} (hj : j < 4) (hO : Own w wr b S D vp vl vg) (hF : CellsAt wr f (boolc (upTo (fun j => (D.team j).2.1) F0 j))) (hC : CellsAt wr g (inL I)) (hT : CellsAt wr s (statL D v)) (hwf : w.heap.size ≤ f) (hbf : b ≠ f) (haf : S.av f) (hft : f < g) (hts : g < s) (htf : (D.team j).2.1 = tf) (W : World) (hW : Below (wr.setCell ⟨f, j, none⟩ (.bool tf)).heap.size (wr.setCell ⟨f, j, none⟩ (.bool tf)) W) : LIn w b f g s S D I F0 vp vl vg v (.int .i64 ((j + 1 : Nat) : Int)) W := by
  have g9 := grown_setW wr f j (.bool tf)
  refine ⟨j + 1, by omega, rfl, (hO.side g9 hwf hbf haf).call hW, ?_, (far_cells hC g9 (by omega)).call hW, (far_cells hT g9 (by omega)).call hW⟩
  have h9 := hF.set_ j (by show j < 4; omega) (.bool tf)
  rw [boolc_set _ (by omega)] at h9
  have e9 : (fun i => if i = j then tf else upTo (fun j => (D.team j).2.1) F0 j i) = upTo (fun j => (D.team j).2.1) F0 (j + 1) := by
    funext i
    unfold upTo
    by_cases hi : i = j
    · rw [if_pos hi, if_pos (by omega), hi]; exact htf.symm
    · by_cases hi2 : i < j
      · rw [if_neg hi, if_pos hi2, if_pos (by omega)]
      · rw [if_neg hi, if_neg hi2, if_neg (by omega)]
  rw [e9] at h9
  exact h9.call hW
theorem way {S : Stp} {ap : Option Addr} {cp : Nat} {xs : List Inp} {la : Option Addr} {lc : Nat} {w : World} (hp : RecsAt 3 pointLay w (.slice ap S.prof.length cp) S.prof) (hl : S.prof.length ≤ 9223372036854775807) (hin : StpIn S) (hav : ∀ c, ¬ S.av c) (hx : RecsAt 12 inL w (.slice la xs.length lc) xs) (hok : ∀ I ∈ xs, InpOk I) (hxl : xs.length ≤ 9223372036854775807) :
    Calls Tryz.prog 3 #[stpV S (.slice ap S.prof.length cp), .slice la xs.length lc] w fun e w' => e = .returned (.bool true) ∧ Below w.heap.size w w' := by
  obtain ⟨w3, hw3⟩ : ∃ x, w.alloc (.cells #[.int .i32 S.gain, .int .i64 S.drag, .int .i32 S.low, .int .i32 S.high, .int .i32 S.rate, .int .i64 S.soft, .int .i32 S.P, .int .i32 S.I, .int .i32 S.D, .int .i32 S.lo, .int .i32 S.hi, .int .i32 S.m0, .int .i32 S.m1, .int .i32 S.m2, .int .i32 S.m3, .int .i32 S.m4, .int .i64 S.up, .int .i64 S.down, .int .i64 S.most, .int .i32 S.sum, .int .i32 S.wide, .int .i32 S.full, .slice ap S.prof.length cp, .int .i32 S.oh, .int .i32 S.ol, .int .i64 S.bits, .int .i32 S.trim] 37) = x := ⟨_, rfl⟩
  have b3 : Below w.heap.size w w3 := hw3 ▸ (Below.refl _ _).alloc (Nat.le_refl _) _
  have C3 : CellsAt w3 w.heap.size [.int .i32 S.gain, .int .i64 S.drag, .int .i32 S.low, .int .i32 S.high, .int .i32 S.rate, .int .i64 S.soft, .int .i32 S.P, .int .i32 S.I, .int .i32 S.D, .int .i32 S.lo, .int .i32 S.hi, .int .i32 S.m0, .int .i32 S.m1, .int .i32 S.m2, .int .i32 S.m3, .int .i32 S.m4, .int .i64 S.up, .int .i64 S.down, .int .i64 S.most, .int .i32 S.sum, .int .i32 S.wide, .int .i32 S.full, .slice ap S.prof.length cp, .int .i32 S.oh, .int .i32 S.ol, .int .i64 S.bits, .int .i32 S.trim] := hw3 ▸ CellsAt.new' rfl rfl
  have HI12 : Hid ((Tryz.prog.info? 48).map (·.size) = some 12) := Lib.hid (by kernel_rfl)
  have HI27 : Hid ((Tryz.prog.info? 62).map (·.size) = some 27) := Lib.hid (by kernel_rfl)
  have HIS : Hid ((Tryz.prog.info? 37).map (·.size) = some 27) := Lib.hid (by kernel_rfl)
  have HC3 := Lib.hid C3
  have HB3 := Lib.hid b3
  have HW3 := Lib.hid hw3
  have HP := Lib.hid hp
  have HX := Lib.hid hx
  have HOK := Lib.hid hok
  have HIN := Lib.hid hin
  have HAV := Lib.hid hav
  clear hp hin hx hok hav b3 C3 hw3
  go_enter Tryz.func3, Tryz.ntmps3
  go_upto_region 1 with (fail)
  rw [HW3.out]
  clear HW3
  go_wp2_with fail
  refine (works_is _).mono ?_
  rintro e4 w4 ⟨rfl, hb4⟩
  have C4 := HC3.out.call hb4
  have RNG := Lib.hid C4.range
  have B4 := HB3.out.trans (hb4.mono HB3.out.size)
  have HB4 := Lib.hid B4
  have hp4 := HP.out.later pointLay_len B4 (Nat.le_refl _)
  have HP4 := Lib.hid hp4
  clear C4 B4 hb4 hp4 HC3 HB3
  by_cases hc : chkE S = 0
  case neg =>
    obtain ⟨c, hcc⟩ : ∃ x, chkE S = x := ⟨_, rfl⟩
    have HNO := Lib.hid (new_no HP4.out hl HIN.out hc)
    rw [hcc] at HNO hc
    have d1 : (c == 0) = false := by simpa using hc
    clear hcc hc
    go_wp2_with (refine wpList_load_mid rfl 37 (.tmp 2) rfl w.heap.size 0 rfl _ _ RNG.out Tryz.underlying37 rfl HIS.out ?_)
    refine HNO.out.mono ?_
    rintro e5 w5 ⟨rfl, hb5⟩
    go_wp2_with fail
    go_ret
    exact ⟨rfl, HB4.out.trans (hb5.mono HB4.out.size)⟩
  have HSO := Lib.hid (chkE_zero HIN.out hc)
  have HNE := Lib.hid (new_yes HP4.out HSO.out (fun c h => absurd h (HAV.out c)))
  clear hc
  go_upto_region 3 with (fail)
  go_wp2_with (refine wpList_load_mid rfl 37 (.tmp 2) rfl w.heap.size 0 rfl _ _ RNG.out Tryz.underlying37 rfl HIS.out ?_)
  refine HNE.out.mono ?_
  rintro e5 w5 ⟨b, vp, rfl, hb, hW5, hb5, -⟩
  have O5 : Own w w5 b S newD vp (.slice none 0 0) (.slice none 0 0) := ⟨HB4.out.trans (hb5.mono HB4.out.size), Nat.le_trans HB4.out.size hb, hW5⟩
  obtain ⟨w6, hw6⟩ : ∃ x, w5.alloc (.cells #[.bool false, .bool false, .bool false, .bool false] 44) = x := ⟨_, rfl⟩
  have b56 : Below w5.heap.size w5 w6 := hw6 ▸ (Below.refl _ _).alloc (Nat.le_refl _) _
  have z56 : w5.heap.size < w6.heap.size := by rw [← hw6]; simp
  have F6 : CellsAt w6 w5.heap.size (boolc fun j => ((runD S xs 0).team j).2.1) := hw6 ▸ CellsAt.new' rfl rfl
  have hbf : b ≠ w5.heap.size := by have := O5.wat.lt; omega
  have hwf : w.heap.size ≤ w5.heap.size := O5.below.size
  obtain ⟨S2, hS2⟩ : ∃ x, S.more w5.heap.size = x := ⟨_, rfl⟩
  have hSav : S2 = S.withAv S2.av := by rw [← hS2]; rfl
  have af : S2.av w5.heap.size := by rw [← hS2]; exact .inr rfl
  have O6 : Own w w6 b S2 (runD S xs 0) vp (.slice none 0 0) (.slice none 0 0) := ⟨O5.below.trans (b56.mono O5.below.size), O5.hb, by rw [← hS2]; exact O5.wat.more b56 (Nat.le_refl _) z56⟩
  have HO6 := Lib.hid O6
  have HF6 := Lib.hid F6
  have HW6 := Lib.hid hw6
  have Hbf := Lib.hid hbf
  have Hwf := Lib.hid hwf
  have Haf := Lib.hid af
  have HSav := Lib.hid hSav
  clear hb hW5 hb5 O5 hw6 b56 z56 F6 hbf hwf hS2 hSav af O6 HNE HP4 HB4 RNG HP
  go_upto_region 6 with (fail)
  go_wp2_with fail
  rw [HW6.out]
  go_loopw [27] (fun i wr => LRel w b w5.heap.size S2 S xs vp i wr) (fun i _ => xs.length - (intOf i).toNat)
  case atStart => exact ⟨0, Nat.zero_le _, rfl, ⟨_, _, HO6.out⟩, HF6.out⟩
  case round =>
    clear HO6 HF6 HW6
    obtain ⟨k, hk, rfl, ⟨vl, vg, hO⟩, hF⟩ := hrel
    have HO := Lib.hid hO; have HF := Lib.hid hF
    by_cases hk1 : k < xs.length
    · have hk2 : (k : Int) < (xs.length : Int) := by omega
      have hk3 : (0 : Int) ≤ (k : Int) := by omega
      have hwk : IntKind.i64.wrap ((k : Int) + 1) = (k : Int) + 1 := IntWalk.i64_in _ (by omega)
      clear hO hF
      go_upto_region 9 with (fail)
      obtain ⟨wo, hwo⟩ : ∃ x, x = wr := ⟨_, rfl⟩
      subst hwo
      obtain ⟨bx, ox, hla, hrow, hbx⟩ := recs_row HX.out hk1
      subst hla
      obtain ⟨I, hI⟩ : ∃ x, xs.getD k default = x := ⟨_, rfl⟩
      rw [hI] at hrow
      have HRW : Hid (wo.rangeAt bx (ox + k * 12) (inL I)) := Lib.hid (fun j v hj => by rw [HO.out.below.cell (p := ⟨bx, ox + k * 12 + j, none⟩) hbx]; exact hrow j v hj)
      have HIok : Hid (InpOk I) := Lib.hid (HOK.out I (by rw [← hI, List.getD_eq_getElem?_getD, List.getElem?_eq_getElem hk1]; exact List.getElem_mem hk1))
      obtain ⟨w7, hw7⟩ : ∃ x, wo.alloc (.cells #[.string ⟨#[]⟩, .int .i32 0, .int .i32 0, .int .i32 0, .int .i64 0, .int .i64 0, .int .i64 0, .int .i64 0, .bool false, .int .i64 0, .bool false, .int .i64 0] 48) = x := ⟨_, rfl⟩
      have b7 : Below wo.heap.size wo w7 := hw7 ▸ (Below.refl _ _).alloc (Nat.le_refl _) _
      have Z7 : CellsAt w7 wo.heap.size [.string ⟨#[]⟩, .int .i32 0, .int .i32 0, .int .i32 0, .int .i64 0, .int .i64 0, .int .i64 0, .int .i64 0, .bool false, .int .i64 0, .bool false, .int .i64 0] := hw7 ▸ CellsAt.new' rfl rfl
      have HTH : Hid (w7.there wo.heap.size 0 (inL I).toArray.size) := Lib.hid (Z7.there (n := 12) (Nat.le_refl _))
      have HON : Hid ((inL I).toArray.all (·.oneCell') = true) := Lib.hid (by kernel_rfl)
      obtain ⟨w8, hw8⟩ : ∃ x, w7.setCells wo.heap.size 0 (inL I).toArray.toList = x := ⟨_, rfl⟩
      have C8 : CellsAt w8 wo.heap.size (inL I) := by rw [← hw8]; exact Z7.row (inL I) rfl
      have b8 : Below wo.heap.size wo w8 := by rw [← hw8]; exact below_setCells (Nat.le_refl _) _ 0 _ b7
      have O8 := HO.out.call b8
      have F8 := HF.out.call b8
      have hbt : b ≠ wo.heap.size := by have := HO.out.wat.lt; omega
      have hft : w5.heap.size < wo.heap.size := HF.out.lt
      have HC8 := Lib.hid C8
      have HO8 := Lib.hid O8
      have HF8 := Lib.hid F8
      have HW7 := Lib.hid hw7
      have HW8 := Lib.hid hw8
      have Hbt := Lib.hid hbt
      have Hft := Lib.hid hft
      have HIe := Lib.hid hI
      clear hrow hI hw7 b7 Z7 hw8 C8 b8 O8 F8 hbt hft HO HF
      go_upto_region 10 with (first | (refine wpList_load_mid rfl 48 (.tmp 29) rfl _ _ rfl _ _ HRW.out Tryz.underlying48 rfl HI12.out ?_) | (refine wpList_store_mid rfl 48 (.tmp 9) (.tmp 30) rfl wo.heap.size 0 (inL I).toArray rfl rfl (by rw [HW7.out]; exact HTH.out) HI12.out HON.out ?_))
      rw [HW7.out, HW8.out]
      clear HW7 HW8 HTH HON HRW
      go_wp2_with (refine wpList_load_mid rfl 48 (.tmp 9) rfl wo.heap.size 0 rfl _ _ HC8.out.range Tryz.underlying48 rfl HI12.out ?_)
      have hfr := wframe_is (I := I) HO8.out.wat (by rw [HSav.out]; exact HSO.out.withAv _) (by rw [HSav.out]; exact (runD_good HSO.out xs k).withAv _) HIok.out
      have e1 : frameL S2 (runD S xs k) I = runD S xs (k + 1) := by rw [HSav.out, ← HIe.out]; exact frameL_av S _ _ _
      rw [e1] at hfr
      obtain ⟨D1, hD1⟩ : ∃ x, runD S xs (k + 1) = x := ⟨_, rfl⟩
      rw [hD1] at hfr
      have HD1 := Lib.hid hD1
      obtain ⟨F0, hF0⟩ : ∃ f : Nat → Bool, (fun j => ((runD S xs k).team j).2.1) = f := ⟨_, rfl⟩
      rw [hF0] at HF8
      have HG1 : Hid (DynOk S D1) := Lib.hid (by rw [← hD1]; exact runD_good HSO.out xs (k + 1))
      have HLA : Hid (∀ j, j < 4 → F0 j = true → (D1.team j).2.1 = false → D1.mm = 3 ∧ I.reset = j ∧ I.ground = true) := Lib.hid (fun j hj h1 h2 => by
        rw [← hF0] at h1
        rw [← hD1] at h2 ⊢
        have e2 : runD S xs (k + 1) = frameL S (runD S xs k) I := by rw [← HIe.out]; rfl
        rw [e2] at h2 ⊢
        exact frame_latch (runD_good HSO.out xs k) HSO.out hj h1 h2)
      have HFM : Hid (∀ j, j < 4 → (D1.team j).2.1 = true → (D1.team j).1 ≠ 1) := Lib.hid (fun j hj h => failed_mode (HG1.out.team j hj) h)
      refine hfr.mono ?_
      clear hfr e1 hD1 hF0
      rintro e9 w9 ⟨v9, vl9, vg9, rfl, hW9, hg9, hO9, -⟩
      obtain ⟨a9, c9, hv9⟩ := own_sliceW hO9
      subst hv9
      have O9 := HO8.out.frame hg9 hW9
      have F9 := far_cells HF8.out hg9 (Ne.symm Hbf.out)
      have C9 := far_cells HC8.out hg9 (Ne.symm Hbt.out)
      obtain ⟨w10, hw10⟩ : ∃ x, w9.alloc (.cells #[.int .i64 0, .int .i64 0, .bool false, .bool false, .int .i64 0, .bool false, .int .i64 0, .int .i64 0, .bool false, .int .i64 0, .int .i64 0, .bool false, .int .i64 0, .int .i64 0, .bool false, .int .i64 0, .int .i64 0, .int .i64 0, .bool false, .int .i32 0, .int .i32 0, .int .i32 0, .int .i32 0, .int .i32 0, .int .i32 0, .int .i32 0, .slice none 0 0] 62) = x := ⟨_, rfl⟩
      have b10 : Below w9.heap.size w9 w10 := hw10 ▸ (Below.refl _ _).alloc (Nat.le_refl _) _
      have Z10 : CellsAt w10 w9.heap.size [.int .i64 0, .int .i64 0, .bool false, .bool false, .int .i64 0, .bool false, .int .i64 0, .int .i64 0, .bool false, .int .i64 0, .int .i64 0, .bool false, .int .i64 0, .int .i64 0, .bool false, .int .i64 0, .int .i64 0, .int .i64 0, .bool false, .int .i32 0, .int .i32 0, .int .i32 0, .int .i32 0, .int .i32 0, .int .i32 0, .int .i32 0, .slice none 0 0] := hw10 ▸ CellsAt.new' rfl rfl
      have HTH : Hid (w10.there w9.heap.size 0 (statL D1 (.slice a9 D1.log.length c9)).toArray.size) := Lib.hid (Z10.there (n := 27) (Nat.le_refl _))
      have HON : Hid ((statL D1 (.slice a9 D1.log.length c9)).toArray.all (·.oneCell') = true) := Lib.hid (by kernel_rfl)
      obtain ⟨w11, hw11⟩ : ∃ x, w10.setCells w9.heap.size 0 (statL D1 (.slice a9 D1.log.length c9)).toArray.toList = x := ⟨_, rfl⟩
      have T11 : CellsAt w11 w9.heap.size (statL D1 (.slice a9 D1.log.length c9)) := by rw [← hw11]; exact Z10.row _ rfl
      have b11 : Below w9.heap.size w9 w11 := by rw [← hw11]; exact below_setCells (Nat.le_refl _) _ 0 _ b10
      have O11 := O9.call b11
      have F11 := F9.call b11
      have C11 := C9.call b11
      have htt : wo.heap.size < w9.heap.size := C9.lt
      have HT11 := Lib.hid T11
      have HO11 := Lib.hid O11
      have HF11 := Lib.hid F11
      have HC11 := Lib.hid C11
      have HW10 := Lib.hid hw10
      have HW11 := Lib.hid hw11
      have Htt := Lib.hid htt
      have q4 := T11.at_ 4 rfl; have q5 := T11.at_ 5 rfl; have q6 := T11.at_ 6 rfl; have q7 := T11.at_ 7 rfl; have q8 := T11.at_ 8 rfl; have q9 := T11.at_ 9 rfl; have q10 := T11.at_ 10 rfl; have q11 := T11.at_ 11 rfl; have q12 := T11.at_ 12 rfl; have q13 := T11.at_ 13 rfl; have q14 := T11.at_ 14 rfl; have q15 := T11.at_ 15 rfl; have qz := T11.lt
      clear hW9 hg9 hO9 O9 F9 C9 hw10 b10 Z10 hw11 T11 b11 O11 F11 C11 htt HO8 HC8 HF8 HG1
      go_upto_region 11 with (refine wpList_store_mid rfl 62 (.tmp 10) (.tmp 33) rfl w9.heap.size 0 (statL D1 (.slice a9 D1.log.length c9)).toArray rfl rfl (by rw [HW10.out]; exact HTH.out) HI27.out HON.out ?_)
      rw [HW10.out, HW11.out]
      clear HW10 HW11 HTH HON
      go_wp2_with fail
      go_loopw [36] (fun i wr => LIn w b w5.heap.size wo.heap.size w9.heap.size S2 D1 I F0 vp vl9 vg9 (.slice a9 D1.log.length c9) i wr) (fun i _ => 4 - (intOf i).toNat)
      case atStart => exact ⟨0, Nat.zero_le _, rfl, HO11.out, HF11.out, HC11.out, HT11.out⟩
      case round =>
        clear HO11 HF11 HC11 HT11 q4 q5 q6 q7 q8 q9 q10 q11 q12 q13 q14 q15 qz
        obtain ⟨j, hj, rfl, hO, hF, hC, hT⟩ := hrel
        have HF := Lib.hid hF; have HO := Lib.hid hO; have HC := Lib.hid hC; have HT := Lib.hid hT
        have i8 : wr.cell? ⟨wo.heap.size, 8, none⟩ = some (.bool I.ground) := hC.at_ 8 rfl
        have i11 : wr.cell? ⟨wo.heap.size, 11, none⟩ = some (.int .i64 I.reset) := hC.at_ 11 rfl
        have s1 : wr.cell? ⟨w9.heap.size, 1, none⟩ = some (.int .i64 D1.mm) := hT.at_ 1 rfl
        have iz := hC.lt; have sz := hT.lt; have fz := hF.lt
        by_cases h4 : j = 4
        · subst h4
          rw [show ((4 : Nat) : Int) = 4 from rfl]
          have hend : ∀ W, W = wr → LRel w b w5.heap.size S2 S xs vp (.int .i64 ((k : Int) + 1)) W := fun W hW => by
            subst hW
            refine ⟨k + 1, by omega, by simp, ⟨_, _, by rw [HD1.out]; exact HO.out⟩, ?_⟩
            rw [HD1.out]
            have e4 : boolc (upTo (fun j => (D1.team j).2.1) F0 4) = boolc fun j => (D1.team j).2.1 := rfl
            rw [← e4]
            exact HF.out
          have HEND := Lib.hid hend
          clear hO hF hC hT hend i8 i11 s1
          go_wp2_with fail
          go_roundw
          (case rel => exact HEND.out _ rfl)
          (case measure => simp [intOf]; omega)
        have hj4 : j < 4 := by omega
        have h0 : j = 0 ∨ j = 1 ∨ j = 2 ∨ j = 3 := by omega
        have c0 := lcell h0 hF
        have cf := hF.2.1 j
        have hla := lsplit (HLA.out j hj4)
        have hfm := lfm (HFM.out j hj4)
        have ix : ∀ w : World, (Instr.index 54 (.agg #[.int .i64 (D1.team 0).1, .bool (D1.team 0).2.1, .int .i64 (D1.team 0).2.2, .int .i64 (D1.team 1).1, .bool (D1.team 1).2.1, .int .i64 (D1.team 1).2.2, .int .i64 (D1.team 2).1, .bool (D1.team 2).2.1, .int .i64 (D1.team 2).2.2, .int .i64 (D1.team 3).1, .bool (D1.team 3).2.1, .int .i64 (D1.team 3).2.2]) (.int .i64 j)).run Tryz.prog w = .ok (.agg #[.int .i64 (D1.team j).1, .bool (D1.team j).2.1, .int .i64 (D1.team j).2.2]) w := fun _ => by rcases h0 with rfl | rfl | rfl | rfl <;> kernel_rfl
        obtain ⟨tm, htm⟩ : ∃ x, (D1.team j).1 = x := ⟨_, rfl⟩
        obtain ⟨tf, htf⟩ : ∃ x, (D1.team j).2.1 = x := ⟨_, rfl⟩
        obtain ⟨fl, hfl⟩ : ∃ x, F0 j = x := ⟨_, rfl⟩
        rw [htm, htf] at hfm
        rw [htf, hfl] at hla
        rw [hfl] at c0
        have Hfin := Lib.hid (lstep hj4 hO hF hC hT Hwf.out Hbf.out Haf.out Hft.out Htt.out htf)
        clear hO hF hC hT hfl hj hj4 h4
        obtain ⟨mm, hmm⟩ : ∃ x, D1.mm = x := ⟨_, rfl⟩
        obtain ⟨rs, hrs⟩ : ∃ x, I.reset = x := ⟨_, rfl⟩
        obtain ⟨gr, hgr⟩ : ∃ x, I.ground = x := ⟨_, rfl⟩
        rw [hmm] at s1 hla
        rw [hrs] at i11 hla
        rw [hgr] at i8 hla
        clear hmm hrs hgr
        rcases h0 with rfl | rfl | rfl | rfl
        all_goals
          first
            | rw [show ((0 : Nat) : Int) = 0 from rfl] at ix hla ⊢
            | rw [show ((1 : Nat) : Int) = 1 from rfl] at ix hla ⊢
            | rw [show ((2 : Nat) : Int) = 2 from rfl] at ix hla ⊢
            | rw [show ((3 : Nat) : Int) = 3 from rfl] at ix hla ⊢
          rw [htm, htf] at ix ⊢
          clear htm htf
          rcases hla with ⟨rfl, rfl, rfl⟩ | ⟨d1, hno⟩ | ⟨rfl, d1, hno⟩ | ⟨rfl, rfl, rfl, hno⟩
          all_goals
            cases tf <;> cases fl <;> first
              | exact absurd (hno rfl) (by decide)
              | ((try have hd := hfm rfl); go_wp2_with fail; go_roundw; (case rel => exact Hfin.out _ ((Below.refl _ _).alloc (Nat.le_refl _) _)); (case measure => simp [intOf]))
    · obtain rfl : k = xs.length := by omega
      have HB := Lib.hid hO.below
      clear hO hF
      go_wp2_with fail
      go_ret
      exact ⟨rfl, HB.out⟩
theorem law (gain drag low high rate soft P I D lo hi m0 m1 m2 m3 m4 up down most sum wide full : Int) (pa : Option Addr) (pl pc : Nat) (ps : List PointR) (oh ol bits trim : Int) (la : Option Addr) (ll lc : Nat) (ls : List Inp) (w : World) (hgain : -2147483648 ≤ gain ∧ gain ≤ 2147483647) (hdrag : -9223372036854775808 ≤ drag ∧ drag ≤ 9223372036854775807) (hlow : -2147483648 ≤ low ∧ low ≤ 2147483647) (hhigh : -2147483648 ≤ high ∧ high ≤ 2147483647) (hrate : -2147483648 ≤ rate ∧ rate ≤ 2147483647) (hsoft : -9223372036854775808 ≤ soft ∧ soft ≤ 9223372036854775807) (hP : -2147483648 ≤ P ∧ P ≤ 2147483647) (hI : -2147483648 ≤ I ∧ I ≤ 2147483647) (hD : -2147483648 ≤ D ∧ D ≤ 2147483647) (hlo : -2147483648 ≤ lo ∧ lo ≤ 2147483647) (hhi : -2147483648 ≤ hi ∧ hi ≤ 2147483647) (hm0 : -2147483648 ≤ m0 ∧ m0 ≤ 2147483647) (hm1 : -2147483648 ≤ m1 ∧ m1 ≤ 2147483647) (hm2 : -2147483648 ≤ m2 ∧ m2 ≤ 2147483647) (hm3 : -2147483648 ≤ m3 ∧ m3 ≤ 2147483647) (hm4 : -2147483648 ≤ m4 ∧ m4 ≤ 2147483647) (hup : -9223372036854775808 ≤ up ∧ up ≤ 9223372036854775807) (hdown : -9223372036854775808 ≤ down ∧ down ≤ 9223372036854775807) (hmost : -9223372036854775808 ≤ most ∧ most ≤ 9223372036854775807) (hsum : -2147483648 ≤ sum ∧ sum ≤ 2147483647) (hwide : -2147483648 ≤ wide ∧ wide ≤ 2147483647) (hfull : -2147483648 ≤ full ∧ full ≤ 2147483647) (hps : IsRecs 3 pointLay pointFit w pa pl pc ps) (hoh : -2147483648 ≤ oh ∧ oh ≤ 2147483647) (hol : -2147483648 ≤ ol ∧ ol ≤ 2147483647) (hbits : -9223372036854775808 ≤ bits ∧ bits ≤ 9223372036854775807) (htrim : -2147483648 ≤ trim ∧ trim ≤ 2147483647) (hls : IsRecs 12 inL InpOk w la ll lc ls) (hcap : ll ≤ lc ∧ lc * 96 ≤ 140737488351232) :
    Calls Tryz.prog 3 #[.agg #[.int .i32 gain, .int .i64 drag, .int .i32 low, .int .i32 high, .int .i32 rate, .int .i64 soft, .int .i32 P, .int .i32 I, .int .i32 D, .int .i32 lo, .int .i32 hi, .int .i32 m0, .int .i32 m1, .int .i32 m2, .int .i32 m3, .int .i32 m4, .int .i64 up, .int .i64 down, .int .i64 most, .int .i32 sum, .int .i32 wide, .int .i32 full, .slice pa pl pc, .int .i32 oh, .int .i32 ol, .int .i64 bits, .int .i32 trim], .slice la ll lc] w fun e w' => e = .returned (.bool true) ∧ Below w.heap.size w w' := by
  obtain ⟨p1, p2, p3⟩ := isRecs_recs hps (by omega) pointLay_len
  obtain ⟨l1, l2, l3⟩ := isRecs_recs hls (by omega) inL_len
  have h := @way { gain := gain, drag := drag, low := low, high := high, rate := rate, soft := soft, P := P, I := I, D := D, lo := lo, hi := hi, m0 := m0, m1 := m1, m2 := m2, m3 := m3, m4 := m4, up := up, down := down, most := most, sum := sum, wide := wide, full := full, oh := oh, ol := ol, bits := bits, trim := trim, prof := ps.take pl, av := fun _ => False } pa pc (ls.take ll) la lc w (by rw [show (ps.take pl).length = pl from p2]; exact p1) (by have h2 := hps; rcases h2 with ⟨-, h2, -⟩ | ⟨_, -, h2, h3, -⟩ <;> (show (ps.take pl).length ≤ _; rw [p2]; first | omega | (simp only [maxLen] at h3; omega))) ⟨hgain, hdrag, hlow, hhigh, hrate, hsoft, hP, hI, hD, hlo, hhi, hm0, hm1, hm2, hm3, hm4, hup, hdown, hmost, hsum, hwide, hfull, hoh, hol, hbits, htrim, p3⟩ (fun _ h => h) (by rw [l2]; exact l1) l3 (by rw [l2]; omega)
  rw [l2] at h
  rw [show (Stp.prof { gain := gain, drag := drag, low := low, high := high, rate := rate, soft := soft, P := P, I := I, D := D, lo := lo, hi := hi, m0 := m0, m1 := m1, m2 := m2, m3 := m3, m4 := m4, up := up, down := down, most := most, sum := sum, wide := wide, full := full, oh := oh, ol := ol, bits := bits, trim := trim, prof := ps.take pl, av := fun _ => False }) = ps.take pl from rfl, p2] at h
  exact h
theorem lifted (os : Os) (started : os.Started) (H : Type) (enc : TypeId × Value → H) :
    ReturnsInHanded {} Tryz.checked os 3 .any (Rows.topLatchSpec.pre6 enc Tryz.prog Tryz.f3 Rows.topLatchRow.domain false) (Rows.topLatchSpec.post enc Tryz.prog Tryz.f3 false true false false) := by
  refine returnsInHanded_of_change_sized (C := Tryz.checked) own started (by kernel_rfl) Tryz.func3
    (ChangeSpec.witness6 (enc := enc) (C := Tryz.checked) false ⟨#[], #[.agg #[.int .i32 0, .int .i64 0, .int .i32 0, .int .i32 0, .int .i32 0, .int .i64 0, .int .i32 0, .int .i32 0, .int .i32 0, .int .i32 0, .int .i32 0, .int .i32 0, .int .i32 0, .int .i32 0, .int .i32 0, .int .i32 0, .int .i64 0, .int .i64 0, .int .i64 0, .int .i32 0, .int .i32 0, .int .i32 0, .slice none 0 0, .int .i32 0, .int .i32 0, .int .i64 0, .int .i32 0], .slice none 0 0], []⟩ 8 (by kernel_rfl) (by kernel_rfl) (by kernel_rfl) (by kernel_rfl)) ?_
  intro W base args ds gs before hval0 hW hcnd hsz0 _
  have hsz : (DataW.weightsEach Tryz.prog (Tryz.f3.params.toList ++ Rows.topLatchSpec.plain.varTypes Tryz.prog) (ds ++ gs)).all (· ≤ reachBytes) = true := hsz0
  have hval : ∀ (j : Nat) t v, Tryz.f3.params[j]? = some t → args[j]? = some v → Value.okWide Tryz.prog W .any base t v := hval0
  have hW' := hW
  obtain ⟨p, q, hA0, hV, rfl, hfz, hnd⟩ := hW
  have hA : DataW.TrodAll enc Tryz.prog W 0 (fun _ => true) true Tryz.f3.params.toList args.toList ds p := hA0
  rw [Tryz.params3] at hA hval hsz
  obtain ⟨v0, vs0, d0, ds0, p0, q0, hargs, rfl, rfl, h0, r0⟩ := trodAll_cons hA
  obtain ⟨v1, vs1, d1, ds1, p1, q1, rfl, rfl, rfl, h1, r1⟩ := trodAll_cons r0
  obtain ⟨rfl, rfl, rfl⟩ := trodAll_nil r1
  obtain rfl : args = #[v0, v1] := by cases args; simp_all
  obtain ⟨rfl, rfl⟩ := trodVars_none hV
  have k0 := h0
  have lt0 : ∀ x ∈ p0, x.block < W.heap.size := by obtain ⟨m, hm⟩ := k0; exact DataW.trod_lt m _ _ _ hm
  have k1 := h1
  have lt1 : ∀ x ∈ p1, x.block < W.heap.size := by obtain ⟨m, hm⟩ := k1; exact DataW.trod_lt m _ _ _ hm
  obtain ⟨cs0, rfl, lf0_0⟩ := open_flat 12 [21, 3, 21, 21, 21, 3, 21, 21, 21, 21, 21, 21, 21, 21, 21, 21, 3, 3, 3, 21, 21, 21, 35, 21, 21, 3, 21] (by kernel_rfl) (by kernel_rfl) (by kernel_rfl) (hval 0 37 v0 rfl rfl) h0
  obtain ⟨c0_0, r0_0, rfl, y0_0, lf0_1⟩ := leafs_cons lf0_0
  obtain ⟨a0_0, rfl, w0_0⟩ := leaf_int Tryz.underlying21 y0_0
  obtain ⟨c0_1, r0_1, rfl, y0_1, lf0_2⟩ := leafs_cons lf0_1
  obtain ⟨a0_1, rfl, w0_1⟩ := leaf_int Tryz.underlying3 y0_1
  obtain ⟨c0_2, r0_2, rfl, y0_2, lf0_3⟩ := leafs_cons lf0_2
  obtain ⟨a0_2, rfl, w0_2⟩ := leaf_int Tryz.underlying21 y0_2
  obtain ⟨c0_3, r0_3, rfl, y0_3, lf0_4⟩ := leafs_cons lf0_3
  obtain ⟨a0_3, rfl, w0_3⟩ := leaf_int Tryz.underlying21 y0_3
  obtain ⟨c0_4, r0_4, rfl, y0_4, lf0_5⟩ := leafs_cons lf0_4
  obtain ⟨a0_4, rfl, w0_4⟩ := leaf_int Tryz.underlying21 y0_4
  obtain ⟨c0_5, r0_5, rfl, y0_5, lf0_6⟩ := leafs_cons lf0_5
  obtain ⟨a0_5, rfl, w0_5⟩ := leaf_int Tryz.underlying3 y0_5
  obtain ⟨c0_6, r0_6, rfl, y0_6, lf0_7⟩ := leafs_cons lf0_6
  obtain ⟨a0_6, rfl, w0_6⟩ := leaf_int Tryz.underlying21 y0_6
  obtain ⟨c0_7, r0_7, rfl, y0_7, lf0_8⟩ := leafs_cons lf0_7
  obtain ⟨a0_7, rfl, w0_7⟩ := leaf_int Tryz.underlying21 y0_7
  obtain ⟨c0_8, r0_8, rfl, y0_8, lf0_9⟩ := leafs_cons lf0_8
  obtain ⟨a0_8, rfl, w0_8⟩ := leaf_int Tryz.underlying21 y0_8
  obtain ⟨c0_9, r0_9, rfl, y0_9, lf0_10⟩ := leafs_cons lf0_9
  obtain ⟨a0_9, rfl, w0_9⟩ := leaf_int Tryz.underlying21 y0_9
  obtain ⟨c0_10, r0_10, rfl, y0_10, lf0_11⟩ := leafs_cons lf0_10
  obtain ⟨a0_10, rfl, w0_10⟩ := leaf_int Tryz.underlying21 y0_10
  obtain ⟨c0_11, r0_11, rfl, y0_11, lf0_12⟩ := leafs_cons lf0_11
  obtain ⟨a0_11, rfl, w0_11⟩ := leaf_int Tryz.underlying21 y0_11
  obtain ⟨c0_12, r0_12, rfl, y0_12, lf0_13⟩ := leafs_cons lf0_12
  obtain ⟨a0_12, rfl, w0_12⟩ := leaf_int Tryz.underlying21 y0_12
  obtain ⟨c0_13, r0_13, rfl, y0_13, lf0_14⟩ := leafs_cons lf0_13
  obtain ⟨a0_13, rfl, w0_13⟩ := leaf_int Tryz.underlying21 y0_13
  obtain ⟨c0_14, r0_14, rfl, y0_14, lf0_15⟩ := leafs_cons lf0_14
  obtain ⟨a0_14, rfl, w0_14⟩ := leaf_int Tryz.underlying21 y0_14
  obtain ⟨c0_15, r0_15, rfl, y0_15, lf0_16⟩ := leafs_cons lf0_15
  obtain ⟨a0_15, rfl, w0_15⟩ := leaf_int Tryz.underlying21 y0_15
  obtain ⟨c0_16, r0_16, rfl, y0_16, lf0_17⟩ := leafs_cons lf0_16
  obtain ⟨a0_16, rfl, w0_16⟩ := leaf_int Tryz.underlying3 y0_16
  obtain ⟨c0_17, r0_17, rfl, y0_17, lf0_18⟩ := leafs_cons lf0_17
  obtain ⟨a0_17, rfl, w0_17⟩ := leaf_int Tryz.underlying3 y0_17
  obtain ⟨c0_18, r0_18, rfl, y0_18, lf0_19⟩ := leafs_cons lf0_18
  obtain ⟨a0_18, rfl, w0_18⟩ := leaf_int Tryz.underlying3 y0_18
  obtain ⟨c0_19, r0_19, rfl, y0_19, lf0_20⟩ := leafs_cons lf0_19
  obtain ⟨a0_19, rfl, w0_19⟩ := leaf_int Tryz.underlying21 y0_19
  obtain ⟨c0_20, r0_20, rfl, y0_20, lf0_21⟩ := leafs_cons lf0_20
  obtain ⟨a0_20, rfl, w0_20⟩ := leaf_int Tryz.underlying21 y0_20
  obtain ⟨c0_21, r0_21, rfl, y0_21, lf0_22⟩ := leafs_cons lf0_21
  obtain ⟨a0_21, rfl, w0_21⟩ := leaf_int Tryz.underlying21 y0_21
  obtain ⟨c0_22, r0_22, rfl, y0_22, lf0_23⟩ := leafs_cons lf0_22
  obtain ⟨a0_22, len0_22, cap0_22, z0_22, rfl, w0_22⟩ := leaf_recs (ts := [21, 3, 21]) 3 pointLay pointFit 12 Tryz.underlying35 (by kernel_rfl) (by kernel_rfl) rfl point_dec y0_22
  obtain ⟨c0_23, r0_23, rfl, y0_23, lf0_24⟩ := leafs_cons lf0_23
  obtain ⟨a0_23, rfl, w0_23⟩ := leaf_int Tryz.underlying21 y0_23
  obtain ⟨c0_24, r0_24, rfl, y0_24, lf0_25⟩ := leafs_cons lf0_24
  obtain ⟨a0_24, rfl, w0_24⟩ := leaf_int Tryz.underlying21 y0_24
  obtain ⟨c0_25, r0_25, rfl, y0_25, lf0_26⟩ := leafs_cons lf0_25
  obtain ⟨a0_25, rfl, w0_25⟩ := leaf_int Tryz.underlying3 y0_25
  obtain ⟨c0_26, r0_26, rfl, y0_26, lf0_27⟩ := leafs_cons lf0_26
  obtain ⟨a0_26, rfl, w0_26⟩ := leaf_int Tryz.underlying21 y0_26
  obtain rfl := leafs_nil lf0_27
  obtain ⟨sa1, sl1, sc1, rfl⟩ := okWide_slice Tryz.underlying38 (hval 1 38 v1 rfl rfl)
  obtain ⟨a1, len1, cap1, z1, e1, w1⟩ := leaf_recsW (ts := [9, 21, 21, 21, 3, 3, 3, 3, 4, 3, 4, 3]) 12 inL InpOk 12 (Tryz.underlying38) (by kernel_rfl) (by kernel_rfl) rfl inp_dec (by obtain ⟨fuel, hf⟩ := h1; exact ⟨fuel, _, by simpa [Value.cells] using hf, weights_of hsz (j := 1) (t := 38) rfl rfl⟩)
  simp only [Value.slice.injEq] at e1
  obtain ⟨rfl, rfl, rfl⟩ := e1
  have R1 := cap_le (B := 96) Tryz.underlying38 k1 (fun elems spare hd => by have := sized_slice hsz (j := 1) (t := 38) (e := 48) (elems := elems) (spare := spare) rfl (by rw [← hd]; rfl) Tryz.underlying38; exact this)
  clear hA0 hval0
  refine (law a0_0 a0_1 a0_2 a0_3 a0_4 a0_5 a0_6 a0_7 a0_8 a0_9 a0_10 a0_11 a0_12 a0_13 a0_14 a0_15 a0_16 a0_17 a0_18 a0_19 a0_20 a0_21 a0_22 len0_22 cap0_22 z0_22 a0_23 a0_24 a0_25 a0_26 sa1 sl1 sc1 z1 W (bounds_i32 w0_0) (bounds_i64 w0_1) (bounds_i32 w0_2) (bounds_i32 w0_3) (bounds_i32 w0_4) (bounds_i64 w0_5) (bounds_i32 w0_6) (bounds_i32 w0_7) (bounds_i32 w0_8) (bounds_i32 w0_9) (bounds_i32 w0_10) (bounds_i32 w0_11) (bounds_i32 w0_12) (bounds_i32 w0_13) (bounds_i32 w0_14) (bounds_i32 w0_15) (bounds_i64 w0_16) (bounds_i64 w0_17) (bounds_i64 w0_18) (bounds_i32 w0_19) (bounds_i32 w0_20) (bounds_i32 w0_21) w0_22 (bounds_i32 w0_23) (bounds_i32 w0_24) (bounds_i64 w0_25) (bounds_i32 w0_26) w1 R1).mono fun e W' ⟨he, bel⟩ => ?_
  subst he
  exact ⟨_, rfl, _, _, _, [], _, [], hW', trodAll_mk1 (shut_bool Tryz.underlying4 _), (trodAll_cons_mk (Below.trod laidOut (by kernel_rfl) (of_decide_eq_true (by kernel_rfl)) k0 bel lt0) (trodAll_cons_mk (Below.trod laidOut (by kernel_rfl) (of_decide_eq_true (by kernel_rfl)) k1 bel lt1) trodAll_mk0)), rfl, bel.frame _, fun h => by cases h⟩
theorem over : Rows.topLatchRow.holds Tryz.pinned (OpenSpec.ofChange Rows.topLatchSpec) :=
  OpenClaim.holds_of_wide 3 Tryz.f3 rfl rfl rfl rfl rfl rfl rfl ⟨rfl, rfl, rfl, rfl, rfl⟩ rfl rfl rfl rfl rfl (by kernel_rfl) Tryz.func3 (by kernel_rfl)
    (of_decide_eq_true (by kernel_rfl)) (by unfold Func.isWrapper; first | (rw [if_pos (by decide +kernel)]; kernel_rfl) | (rw [if_neg (by decide +kernel)]; exact ⟨rfl, rfl⟩))
    (fun os started H enc _ => lifted os started H enc)
theorem proved : Rows.TopLatchSaid := over
#print axioms proved
end Go.Proofs.YtlagmebnjagoaaaGreat.topLatch
