/- CutsAcross: whatever the tree is, the law answers true and leaves memory as it was. -/
import Derived.Test.YtiocgmioijcjhaaAcross
import Derived.Test.YtiocgmioijcjhaaGateOpen
namespace Go.Proofs.Ytiocgmioijcjhaa.cutsAcross
open Go.ChangeShapes Go.WideShapes Go.ChangeAt Go.RowKit Go.Proofs.Ytiocgmioijcjhaa Go.Proofs.Ytiocgmioijcjhaa.Open
set_option linter.unusedVariables false
def Post (w : World) (e : Ending) (w' : World) : Prop := e = .returned (.bool true) ∧ Below w.heap.size w w'
theorem u16s_inj {xs ys : List Nat} (h : xs = ys) : decide (u16s xs = u16s ys) = true := decide_eq_true (congrArg u16s h)
set_option maxHeartbeats 16000000 in
set_option maxRecDepth 100000 in
theorem way (ts : List GateR) (v : Value) (w : World) (hv : GatesAt w v ts) (hm : ts.length ≤ 281474976710656) :
    Calls Try.prog 5 #[v] w (Post w) := by
  obtain ⟨a, cap, rfl⟩ := hv.len
  have HV := Lib.hid hv
  clear hv
  have J1 : Hid (OwnU (w.alloc (.cells #[.int .u16 1, .int .u16 2] 23)) w.heap.size (.slice (some ⟨w.heap.size, 0, none⟩) 2 2) [1, 2]) := Lib.hid (World.ownsRow_lit (size := 1) w #[.int .u16 1, .int .u16 2] 2 (Nat.le_refl _) (by decide) rfl)
  have B1 : Hid (Below w.heap.size w (w.alloc (.cells #[.int .u16 1, .int .u16 2] 23))) := Lib.hid ((Below.refl _ _).alloc (Nat.le_refl _) _)
  go_enter Try.func5, Try.ntmps5
  go_wp2_with fail
  refine (across_yes [1, 2] _ _ J1.out.ints (by decide) (by decide)).mono ?_
  rintro e w2 ⟨⟨v2, rfl, ho2⟩, hb2⟩
  rw [across_two] at ho2
  obtain ⟨a2, c2, hv2⟩ := ho2.ints.len
  subst hv2
  have I2 := Lib.hid ho2.ints
  have B2 := Lib.hid (B1.out.trans (hb2.mono B1.out.size))
  clear hb2 ho2 J1 B1
  go_wp2_with fail
  have HA2 : Below w2.heap.size w2 (w2.alloc (.cells #[.int .u16 3] 23)) := (Below.refl _ _).alloc (Nat.le_refl _) _
  have J2 : Hid (IntsAt .u16 (w2.alloc (.cells #[.int .u16 3] 23)) (.slice (some ⟨w2.heap.size, 0, none⟩) 1 1) (u16s [3])) := Lib.hid (own_lit w2 3).ints
  have I3 := Lib.hid (I2.out.later HA2 (Nat.le_refl _))
  refine (equal_u16 (u16s [3]) (u16s [3]) _ _ _ I3.out J2.out (by decide) (by decide)).mono ?_
  rintro e w3 ⟨m3, rfl, rfl⟩
  have B3 : Hid (Below w.heap.size w ((w2.alloc (.cells #[.int .u16 3] 23)).drewN m3)) := Lib.hid (below_drewN (B2.out.trans (HA2.mono B2.out.size)) m3)
  rw [show decide (u16s [3] = u16s [3]) = true from decide_eq_true rfl]
  clear HA2 J2 I3 I2 B2
  generalize ((w2.alloc (.cells #[.int .u16 3] 23)).drewN m3) = w3 at *
  by_cases hok : TreeOk ts
  · have HOK := Lib.hid hok
    clear hok
    go_wp2_with fail
    refine (cuts_yes ts _ _ (HV.out.later B3.out) HOK.out).mono ?_
    rintro e w4 ⟨⟨v4, rfl, hi4⟩, hb4⟩
    have HN := Lib.hid (cuts_norm HOK.out)
    have HAD := Lib.hid (across_dual HOK.out)
    have HAA := Lib.hid (across_across HN.out)
    obtain ⟨L, hL⟩ : ∃ L, cutsL ts = L := ⟨_, rfl⟩
    rw [hL] at HN HAD HAA hi4
    obtain ⟨a4, c4, hv4⟩ := hi4.len
    rw [u16s_len] at hv4
    subst hv4
    have I4 := Lib.hid hi4
    have lL := anti_len70 HN.out.1
    have B4 := Lib.hid (B3.out.trans (hb4.mono B3.out.size))
    clear hi4 hb4 hL
    go_wp2_with fail
    refine (dual_yes ts _ _ (HV.out.later B4.out) HOK.out).mono ?_
    rintro e w5 ⟨⟨v5, gs, rfl, hgs, hO⟩, hb5⟩
    have hg5 : GatesAt w5 v5 (dualL ts) := by
      have hlen : gs.length = ts.length := by have := congrArg List.length hgs; rw [List.length_map, dual_len] at this; exact this
      have hdo := dual_ok HOK.out
      rw [← hgs]
      refine hO.gates (fun x hx => ?_) (by rw [hlen]; exact hm)
      have h1 : x.1 ∈ dualL ts := by rw [← hgs]; exact List.mem_map_of_mem hx
      obtain ⟨i, hi, he⟩ := List.getElem_of_mem h1
      have h2 := (hdo.2.2 i x.1 (by rw [List.getElem?_eq_getElem hi, he])).2.1
      omega
    obtain ⟨a5, c5, hv5⟩ := hg5.len
    subst hv5
    have HG5 := Lib.hid hg5
    have I5 := Lib.hid (I4.out.later hb5 (Nat.le_refl _))
    have B5 := Lib.hid (B4.out.trans (hb5.mono B4.out.size))
    clear hg5 hgs hO hb5 I4 B4
    go_wp2_with fail
    refine (cuts_yes (dualL ts) _ _ HG5.out (dual_ok HOK.out)).mono ?_
    rintro e w6 ⟨⟨v6, rfl, hi6⟩, hb6⟩
    rw [← HAD.out] at hi6
    obtain ⟨a6, c6, hv6⟩ := hi6.len
    rw [u16s_len] at hv6
    subst hv6
    have P6 := Lib.hid hi6
    have I6 := Lib.hid (I5.out.later hb6 (Nat.le_refl _))
    have B6 := Lib.hid (B5.out.trans (hb6.mono B5.out.size))
    clear hi6 hb6 I5 B5 HG5
    go_wp2_with fail
    refine (across_yes L _ _ I6.out (by omega) HN.out.1.1).mono ?_
    rintro e w7 ⟨⟨v7, rfl, ho7⟩, hb7⟩
    have HN7 := Lib.hid (across_norm L)
    have HMT : Hid (∀ x ∈ L, ∀ y ∈ acrossL L, x &&& y ≠ 0) := Lib.hid (fun x hx y hy => across_meet HN.out.1.1 hx hy)
    obtain ⟨A, hA⟩ : ∃ A, acrossL L = A := ⟨_, rfl⟩
    rw [hA] at HN7 HMT HAA ho7 P6
    rw [hA]
    have hi7 := ho7.ints
    obtain ⟨a7, c7, hv7⟩ := hi7.len
    rw [u16s_len] at hv7
    subst hv7
    have lA := anti_len70 HN7.out.1
    have A7 := Lib.hid hi7
    have P7 := Lib.hid (P6.out.later hb7 (Nat.le_refl _))
    have I7 := Lib.hid (I6.out.later hb7 (Nat.le_refl _))
    have B7 := Lib.hid (B6.out.trans (hb7.mono B6.out.size))
    clear hi7 ho7 hb7 hA P6 I6 B6
    go_wp2_with fail
    refine (across_yes A _ _ A7.out (by omega) HN7.out.1.1).mono ?_
    rintro e w8 ⟨⟨v8, rfl, ho8⟩, hb8⟩
    rw [HAA.out] at ho8
    have hi8 := ho8.ints
    obtain ⟨a8, c8, hv8⟩ := hi8.len
    rw [u16s_len] at hv8
    subst hv8
    have K8 := Lib.hid hi8
    have A8 := Lib.hid (A7.out.later hb8 (Nat.le_refl _))
    have P8 := Lib.hid (P7.out.later hb8 (Nat.le_refl _))
    have I8 := Lib.hid (I7.out.later hb8 (Nat.le_refl _))
    have B8 := Lib.hid (B7.out.trans (hb8.mono B7.out.size))
    clear hi8 ho8 hb8 A7 P7 I7 B7 HAA HAD
    go_wp2_with fail
    go_loopw [61] (fun i wr => (∃ k : Nat, k ≤ L.length ∧ i = .int .i64 k) ∧ Below w8.heap.size w8 wr) (fun i _ => L.length - (intOf i).toNat)
    case atStart => exact ⟨⟨0, Nat.zero_le _, rfl⟩, Below.refl _ _⟩
    case round =>
      obtain ⟨⟨k, hk, rfl⟩, hBr⟩ := hrel
      have HBR := Lib.hid hBr
      have zr := hBr.size
      by_cases hlt : k < L.length
      · obtain ⟨x, hxk⟩ : ∃ x, L[k]? = some x := ⟨_, List.getElem?_eq_getElem hlt⟩
        have hx6 : x < 256 := HN.out.1.1 x (List.mem_of_getElem? hxk)
        obtain ⟨b, off, cap', hv', hl1, hcell⟩ := ints_at (I8.out.later hBr (Nat.le_refl _)) (u16s_at hxk)
        rw [u16s_len] at hl1 hv'
        cases hv'
        have e5 : (k : Int) < (L.length : Int) := by omega
        have e6 : k + 1 ≤ c4 := by omega
        have XK := Lib.hid hxk
        clear hBr hxk
        go_wp2_with fail
        clear hcell
        go_loopw [67] (fun j wx => (∃ m : Nat, m ≤ A.length ∧ j = .int .i64 m) ∧ Below w8.heap.size w8 wx) (fun j _ => A.length - (intOf j).toNat)
        case atStart => exact ⟨⟨0, Nat.zero_le _, rfl⟩, HBR.out⟩
        case round =>
          obtain ⟨⟨m, hm2, rfl⟩, hBx⟩ := hrel
          have HBX := Lib.hid hBx
          have zx := hBx.size
          by_cases hlt2 : m < A.length
          · obtain ⟨y, hyk⟩ : ∃ y, A[m]? = some y := ⟨_, List.getElem?_eq_getElem hlt2⟩
            have hy6 : y < 256 := HN7.out.1.1 y (List.mem_of_getElem? hyk)
            obtain ⟨b2, off2, cap2, hv2, hl2, hcell2⟩ := ints_at (A8.out.later hBx (Nat.le_refl _)) (u16s_at hyk)
            rw [u16s_len] at hl2 hv2
            cases hv2
            have e7 : (m : Int) < (A.length : Int) := by omega
            have e8 : m + 1 ≤ c7 := by omega
            have hand := and_u16 x y (by omega) (by omega)
            have hne := HMT.out x (List.mem_of_getElem? XK.out) y (List.mem_of_getElem? hyk)
            have e9 : (((x &&& y : Nat) : Int) == 0) = false := by
              rw [beq_eq_false_iff_ne]; omega
            clear hBx hyk hne
            go_wp2
            go_roundw
            case rel => exact ⟨⟨m + 1, by omega, by go_num⟩, HBX.out⟩
            case measure => simp [intOf]; omega
          · obtain rfl : m = A.length := by omega
            clear hBx
            go_wp2
            go_roundw
            case rel => exact ⟨⟨k + 1, by omega, by go_num⟩, HBX.out⟩
            case measure => simp [intOf]; omega
      · obtain rfl : k = L.length := by omega
        have B9 := Lib.hid (B8.out.trans (hBr.mono B8.out.size))
        have A9 := Lib.hid (A8.out.later hBr (Nat.le_refl _))
        have P9 := Lib.hid (P8.out.later hBr (Nat.le_refl _))
        have I9 := Lib.hid (I8.out.later hBr (Nat.le_refl _))
        have K9 := Lib.hid (K8.out.later hBr (Nat.le_refl _))
        clear hBr HBR A8 P8 I8 K8
        go_wp2_with fail
        refine (equal_u16 (u16s A) (u16s A) _ _ _ A9.out P9.out (by rw [u16s_len]; omega) (by rw [u16s_len]; omega)).mono ?_
        rintro e w10 ⟨m10, rfl, rfl⟩
        rw [u16s_inj (rfl : A = A)]
        have B10 : Hid (Below w.heap.size w (wr.drewN m10)) := Lib.hid (below_drewN B9.out m10)
        have I10 := Lib.hid (I9.out.drewN m10)
        have K10 := Lib.hid (K9.out.drewN m10)
        generalize wr.drewN m10 = w10 at *
        go_wp2_with fail
        refine (equal_u16 (u16s L) (u16s L) _ _ _ K10.out I10.out (by rw [u16s_len]; omega) (by rw [u16s_len]; omega)).mono ?_
        rintro e w11 ⟨m11, rfl, rfl⟩
        rw [u16s_inj (rfl : L = L)]
        have B11 : Hid (Below w.heap.size w (w10.drewN m11)) := Lib.hid (below_drewN B10.out m11)
        generalize w10.drewN m11 = w11 at *
        go_wp2
        go_ret
        exact ⟨rfl, B11.out⟩
  · have HOK := Lib.hid hok
    clear hok
    go_wp2_with fail
    refine (cuts_no ts _ _ (HV.out.later B3.out) HOK.out hm).mono ?_
    rintro e w4 ⟨⟨c, hc, rfl⟩, hb4⟩
    have B4 := Lib.hid (B3.out.trans (hb4.mono B3.out.size))
    have hcb : (c == 0) = false := by simpa using hc
    have hc2 : (c != 0) = true := by simpa using hc
    clear hc hb4
    go_wp2
    go_ret
    exact ⟨rfl, B4.out⟩
theorem law (a : Option Addr) (len cap : Nat) (xs : List RawG) (w : World)
    (h : IsRecs 3 rawLay (gateFitS w) w a len cap xs) (hr : len ≤ cap ∧ cap * 40 ≤ 140737488351232) :
    Calls Try.prog 5 #[.slice a len cap] w fun e w' => e = .returned (.bool true) ∧ Below w.heap.size w w' := by
  obtain ⟨h1, h2⟩ := raw_trees h
  exact way ((xs.take len).map rawG) _ w h1 (by omega)
set_option maxRecDepth 100000 in
theorem lifted (os : Os) (started : os.Started) (H : Type) (enc : TypeId × Value → H) :
    ReturnsInHanded {} Try.checked os 5 .any (Rows.cutsAcrossSpec.pre6 enc Try.prog Try.f5 Rows.cutsAcrossRow.domain false) (Rows.cutsAcrossSpec.post enc Try.prog Try.f5 false true false false) := by
  refine returnsInHanded_of_change_sized (C := Try.checked) own started (by kernel_rfl) Try.func5
    (ChangeSpec.witness6 (enc := enc) (C := Try.checked) false ⟨#[], #[.slice none 0 0], []⟩ 8 (by kernel_rfl) (by kernel_rfl) (by kernel_rfl) (by kernel_rfl)) ?_
  intro W base args ds gs before hval0 hW hcnd hsz0 _
  have hsz : (DataW.weightsEach Try.prog (Try.f5.params.toList ++ Rows.cutsAcrossSpec.plain.varTypes Try.prog) (ds ++ gs)).all (· ≤ reachBytes) = true := hsz0
  have hval : ∀ (j : Nat) t v, Try.f5.params[j]? = some t → args[j]? = some v → Value.okWide Try.prog W .any base t v := hval0
  have hW' := hW
  obtain ⟨p, q, hA0, hV, rfl, hfz, hnd⟩ := hW
  have hA : DataW.TrodAll enc Try.prog W 0 (fun _ => true) true Try.f5.params.toList args.toList ds p := hA0
  rw [Try.params5] at hA hval hsz
  obtain ⟨v0, vs0, d0, ds0, p0, q0, hargs, rfl, rfl, h0, r0⟩ := trodAll_cons hA
  obtain ⟨rfl, rfl, rfl⟩ := trodAll_nil r0
  obtain rfl : args = #[v0] := by cases args; simp_all
  obtain ⟨rfl, rfl⟩ := trodVars_none hV
  have k0 := h0
  have lt0 : ∀ x ∈ p0, x.block < W.heap.size := by obtain ⟨m, hm⟩ := k0; exact DataW.trod_lt m _ _ _ hm
  obtain ⟨sa0, sl0, sc0, rfl⟩ := okWide_slice Try.underlying22 (hval 0 22 v0 rfl rfl)
  obtain ⟨a0, len0, cap0, z0, e0, w0⟩ := leaf_recsS (ts := [3, 3, 28]) 3 rawLay (gateFitS W) 12 (Try.underlying22) (by kernel_rfl) (by kernel_rfl) rfl gate_decS (by obtain ⟨fuel, hf⟩ := h0; exact ⟨fuel, _, by simpa [Value.cells] using hf, weights_of hsz (j := 0) (t := 22) rfl rfl⟩)
  simp only [Value.slice.injEq] at e0
  obtain ⟨rfl, rfl, rfl⟩ := e0
  have R0 := cap_le (B := 40) Try.underlying22 k0 (fun elems spare hd => by have := sized_slice hsz (j := 0) (t := 22) (e := 30) (elems := elems) (spare := spare) rfl (by rw [← hd]; rfl) Try.underlying22; exact this)
  clear hA0 hval0
  refine (law sa0 sl0 sc0 z0 W w0 R0).mono fun e W' ⟨he, bel⟩ => ?_
  subst he
  exact ⟨_, rfl, _, _, _, [], _, [], hW', trodAll_mk1 (shut_bool Try.underlying4 _), (trodAll_cons_mk (Below.trod laidOut (by kernel_rfl) (of_decide_eq_true (by kernel_rfl)) k0 bel lt0) trodAll_mk0), rfl, bel.frame _, fun h => by cases h⟩
theorem over : Rows.cutsAcrossRow.holds Try.pinned (OpenSpec.ofChange Rows.cutsAcrossSpec) :=
  OpenClaim.holds_of_wide 5 Try.f5 rfl rfl rfl rfl rfl rfl rfl ⟨rfl, rfl, rfl, rfl, rfl⟩ rfl rfl rfl rfl rfl (by kernel_rfl) Try.func5 (by kernel_rfl)
    (of_decide_eq_true (by kernel_rfl)) (by unfold Func.isWrapper; first | (rw [if_pos (by decide +kernel)]; kernel_rfl) | (rw [if_neg (by decide +kernel)]; exact ⟨rfl, rfl⟩))
    (fun os started H enc _ => lifted os started H enc)
theorem proved : Rows.CutsAcrossSaid := over
#print axioms proved

end Go.Proofs.Ytiocgmioijcjhaa.cutsAcross
