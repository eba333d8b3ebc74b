/- OddsCount: whatever the tree is, the law answers true and leaves memory as it was. -/
import Derived.Test.YtiocgmioijcjhaaOddsCnt
import Derived.Test.YtiocgmioijcjhaaCutsEither
import Derived.Test.YtiocgmioijcjhaaGateOpen
namespace Go.Proofs.Ytiocgmioijcjhaa.oddsCount
open Go.ChangeShapes Go.WideShapes Go.ChangeAt Go.RowKit Go.Proofs.Ytiocgmioijcjhaa Go.Proofs.Ytiocgmioijcjhaa.Open
set_option linter.unusedVariables false
def Post (w : World) (e : Ending) (w' : World) : Prop := e = .returned (.bool true) ∧ Below w.heap.size w w'
theorem cuts_is : CutsIs := fun ts v w h1 h2 => cuts_yes ts v w h1 h2
theorem cuts_isno : CutsNo := fun ts v w h1 h2 h3 => cuts_no ts v w h1 h2 h3
theorem cnt_either : cntT eitherL = 192 := by rw [← cnt_cuts either_ok, cuts_either]; exact cnt_two
def AllRel (ts : List GateR) (w : World) (n s : Value) (wr : World) : Prop :=
  ∃ m : Nat, m ≤ 256 ∧ s = .int .u16 m ∧ n = .int .i64 (sumTo m fun s => one (topB ts s)) ∧ Below w.heap.size w wr
set_option maxHeartbeats 16000000 in
set_option maxRecDepth 100000 in
theorem way (ts : List GateR) (v : Value) (w : World) (hv : GatesAt w v ts) (hm : ts.length ≤ 281474976710656) :
    Calls Try.prog 7 #[v] w (Post w) := by
  obtain ⟨a, cap, rfl⟩ := hv.len
  have HV := Lib.hid hv
  clear hv
  go_enter Try.func7, Try.ntmps7
  go_wp2_with fail
  refine (either_is _).mono ?_
  rintro e w1 ⟨⟨v1, rfl, hg1⟩, hb1⟩
  obtain ⟨a1, c1, hv1⟩ := hg1.len
  subst hv1
  have B1 := Lib.hid hb1; have G1 := Lib.hid hg1
  clear hb1 hg1
  go_wp2_with fail
  refine (count_yes cuts_is eitherL _ _ G1.out either_ok).mono ?_
  rintro e w2 ⟨rfl, hb2⟩
  rw [cnt_either]
  have B2 := Lib.hid (B1.out.trans (hb2.mono B1.out.size))
  clear hb2 B1 G1
  by_cases hok : TreeOk ts
  · have HOK := Lib.hid hok
    clear hok
    go_wp2_with fail
    refine (count_yes cuts_is ts _ _ (HV.out.later B2.out) HOK.out).mono ?_
    rintro e w4 ⟨rfl, hb4⟩
    have B4 := Lib.hid (B2.out.trans (hb4.mono B2.out.size))
    have hcd := cnt_dual HOK.out
    have hcr := cnt_range ts
    have HCN : Hid (cntT ts = sumTo 256 fun s => one (topB ts s)) := Lib.hid rfl
    obtain ⟨n, hn⟩ : ∃ n, cntT ts = n := ⟨_, rfl⟩
    rw [hn] at hcd hcr HCN ⊢
    clear hb4 hn
    go_wp2_with fail
    go_loopw [7, 35] (fun n s wx => AllRel ts w4 n s wx) (fun _ s _ => 256 - (intOf s).toNat)
    case atStart => exact ⟨0, by omega, rfl, rfl, Below.refl _ _⟩
    case round =>
      obtain ⟨m, hm2, rfl, rfl, hB⟩ := hrel
      have HB := Lib.hid hB
      have zB := hB.size
      have hsb := sumTo_ge m (fun s => topB ts s)
      by_cases hlt : m < 256
      · have e5 : (m : Int) < 256 := by omega
        have HS : Hid ((sumTo (m + 1) fun s => one (topB ts s)) = (sumTo m fun s => one (topB ts s)) + one (topB ts m)) := Lib.hid rfl
        obtain ⟨q, hq⟩ : ∃ q, (sumTo m fun s => one (topB ts s)) = q := ⟨_, rfl⟩
        rw [hq] at HS hsb ⊢
        have huw : IntKind.u16.wrap ((m : Int) + 1) = (m : Int) + 1 := IntWalk.u16_in _ (by omega)
        clear hB hq
        go_wp2_with fail
        refine (cutsFails_yes ts m _ _ (HV.out.later (B4.out.trans (HB.out.mono B4.out.size))) HOK.out (by omega)).mono ?_
        rintro e w8 ⟨rfl, hb8⟩
        have B8 := Lib.hid (HB.out.trans (hb8.mono zB))
        clear hb8
        cases hr : topB ts m
        · have HS2 : Hid ((sumTo (m + 1) fun s => one (topB ts s)) = q) := Lib.hid (by rw [HS.out, hr]; exact Int.add_zero q)
          clear hr
          go_wp2
          go_roundw
          case rel => exact ⟨m + 1, by omega, by go_num, by rw [HS2.out], B8.out⟩
          case measure => simp [intOf]; omega
        · have HS2 : Hid ((sumTo (m + 1) fun s => one (topB ts s)) = q + 1) := Lib.hid (by rw [HS.out, hr]; rfl)
          clear hr
          go_wp2
          go_roundw
          case rel => exact ⟨m + 1, by omega, by go_num, by rw [HS2.out], B8.out⟩
          case measure => simp [intOf]; omega
      · obtain rfl : m = 256 := by omega
        rw [← HCN.out]
        have B8 := Lib.hid (B4.out.trans (hB.mono B4.out.size))
        clear hB hsb
        rw [show ((256 : Nat) : Int) = 256 from rfl]
        go_wp2_with fail
        refine (dual_yes ts _ _ (HV.out.later B8.out) HOK.out).mono ?_
        rintro e w5 ⟨⟨v5, gs, rfl, hgs, hO⟩, hb5⟩
        have hg5 : GatesAt w5 v5 (dualL ts) := by
          have hlen : gs.length = ts.length := by have := congrArg List.length hgs; rw [List.length_map, dual_len] at this; exact this
          have hdo := dual_ok HOK.out
          rw [← hgs]
          refine hO.gates (fun x hx => ?_) (by rw [hlen]; exact hm)
          have h1 : x.1 ∈ dualL ts := by rw [← hgs]; exact List.mem_map_of_mem hx
          obtain ⟨i, hi, he⟩ := List.getElem_of_mem h1
          have h2 := (hdo.2.2 i x.1 (by rw [List.getElem?_eq_getElem hi, he])).2.1
          omega
        obtain ⟨a5, c5, hv5⟩ := hg5.len
        subst hv5
        have HG5 := Lib.hid hg5
        have B5 := Lib.hid (B8.out.trans (hb5.mono B8.out.size))
        clear hg5 hgs hO hb5
        go_wp2_with fail
        refine (count_yes cuts_is (dualL ts) _ _ HG5.out (dual_ok HOK.out)).mono ?_
        rintro e w6 ⟨rfl, hb6⟩
        have B6 := Lib.hid (B5.out.trans (hb6.mono B5.out.size))
        obtain ⟨m, hmm⟩ : ∃ m, cntT (dualL ts) = m := ⟨_, rfl⟩
        rw [hmm] at hcd ⊢
        have e9 : (n + m == 256) = true := by rw [beq_iff_eq]; exact hcd
        have e7 : wrap64 (n + m) = 256 := by rw [IntWalk.wrap64_in _ (by omega)]; exact hcd
        clear hb6 hmm
        go_wp2
        go_ret
        exact ⟨rfl, B6.out⟩
  · have HOK := Lib.hid hok
    clear hok
    go_wp2_with fail
    refine (count_no cuts_isno ts _ _ (HV.out.later B2.out) HOK.out hm).mono ?_
    rintro e w4 ⟨⟨c, hc, rfl⟩, hb4⟩
    have B4 := Lib.hid (B2.out.trans (hb4.mono B2.out.size))
    have hcb : (c == 0) = false := by simpa using hc
    have hc2 : (c != 0) = true := by simpa using hc
    clear hc hb4
    go_wp2
    go_ret
    exact ⟨rfl, B4.out⟩
theorem law (a : Option Addr) (len cap : Nat) (xs : List RawG) (w : World)
    (h : IsRecs 3 rawLay (gateFitS w) w a len cap xs) (hr : len ≤ cap ∧ cap * 40 ≤ 140737488351232) :
    Calls Try.prog 7 #[.slice a len cap] w fun e w' => e = .returned (.bool true) ∧ Below w.heap.size w w' := by
  obtain ⟨h1, h2⟩ := raw_trees h
  exact way ((xs.take len).map rawG) _ w h1 (by omega)
set_option maxRecDepth 100000 in
theorem lifted (os : Os) (started : os.Started) (H : Type) (enc : TypeId × Value → H) :
    ReturnsInHanded {} Try.checked os 7 .any (Rows.oddsCountSpec.pre6 enc Try.prog Try.f7 Rows.oddsCountRow.domain false) (Rows.oddsCountSpec.post enc Try.prog Try.f7 false true false false) := by
  refine returnsInHanded_of_change_sized (C := Try.checked) own started (by kernel_rfl) Try.func7
    (ChangeSpec.witness6 (enc := enc) (C := Try.checked) false ⟨#[], #[.slice none 0 0], []⟩ 8 (by kernel_rfl) (by kernel_rfl) (by kernel_rfl) (by kernel_rfl)) ?_
  intro W base args ds gs before hval0 hW hcnd hsz0 _
  have hsz : (DataW.weightsEach Try.prog (Try.f7.params.toList ++ Rows.oddsCountSpec.plain.varTypes Try.prog) (ds ++ gs)).all (· ≤ reachBytes) = true := hsz0
  have hval : ∀ (j : Nat) t v, Try.f7.params[j]? = some t → args[j]? = some v → Value.okWide Try.prog W .any base t v := hval0
  have hW' := hW
  obtain ⟨p, q, hA0, hV, rfl, hfz, hnd⟩ := hW
  have hA : DataW.TrodAll enc Try.prog W 0 (fun _ => true) true Try.f7.params.toList args.toList ds p := hA0
  rw [Try.params7] at hA hval hsz
  obtain ⟨v0, vs0, d0, ds0, p0, q0, hargs, rfl, rfl, h0, r0⟩ := trodAll_cons hA
  obtain ⟨rfl, rfl, rfl⟩ := trodAll_nil r0
  obtain rfl : args = #[v0] := by cases args; simp_all
  obtain ⟨rfl, rfl⟩ := trodVars_none hV
  have k0 := h0
  have lt0 : ∀ x ∈ p0, x.block < W.heap.size := by obtain ⟨m, hm⟩ := k0; exact DataW.trod_lt m _ _ _ hm
  obtain ⟨sa0, sl0, sc0, rfl⟩ := okWide_slice Try.underlying22 (hval 0 22 v0 rfl rfl)
  obtain ⟨a0, len0, cap0, z0, e0, w0⟩ := leaf_recsS (ts := [3, 3, 28]) 3 rawLay (gateFitS W) 12 (Try.underlying22) (by kernel_rfl) (by kernel_rfl) rfl gate_decS (by obtain ⟨fuel, hf⟩ := h0; exact ⟨fuel, _, by simpa [Value.cells] using hf, weights_of hsz (j := 0) (t := 22) rfl rfl⟩)
  simp only [Value.slice.injEq] at e0
  obtain ⟨rfl, rfl, rfl⟩ := e0
  have R0 := cap_le (B := 40) Try.underlying22 k0 (fun elems spare hd => by have := sized_slice hsz (j := 0) (t := 22) (e := 30) (elems := elems) (spare := spare) rfl (by rw [← hd]; rfl) Try.underlying22; exact this)
  clear hA0 hval0
  refine (law sa0 sl0 sc0 z0 W w0 R0).mono fun e W' ⟨he, bel⟩ => ?_
  subst he
  exact ⟨_, rfl, _, _, _, [], _, [], hW', trodAll_mk1 (shut_bool Try.underlying4 _), (trodAll_cons_mk (Below.trod laidOut (by kernel_rfl) (of_decide_eq_true (by kernel_rfl)) k0 bel lt0) trodAll_mk0), rfl, bel.frame _, fun h => by cases h⟩
theorem over : Rows.oddsCountRow.holds Try.pinned (OpenSpec.ofChange Rows.oddsCountSpec) :=
  OpenClaim.holds_of_wide 7 Try.f7 rfl rfl rfl rfl rfl rfl rfl ⟨rfl, rfl, rfl, rfl, rfl⟩ rfl rfl rfl rfl rfl (by kernel_rfl) Try.func7 (by kernel_rfl)
    (of_decide_eq_true (by kernel_rfl)) (by unfold Func.isWrapper; first | (rw [if_pos (by decide +kernel)]; kernel_rfl) | (rw [if_neg (by decide +kernel)]; exact ⟨rfl, rfl⟩))
    (fun os started H enc _ => lifted os started H enc)
theorem proved : Rows.OddsCountSaid := over
#print axioms proved

end Go.Proofs.Ytiocgmioijcjhaa.oddsCount
