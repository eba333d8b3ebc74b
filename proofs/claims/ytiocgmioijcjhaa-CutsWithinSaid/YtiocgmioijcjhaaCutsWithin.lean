/- CutsWithin: whatever the tree and the parts are, the law answers true and leaves memory as it was. -/
import Derived.Test.YtiocgmioijcjhaaCutsWith
import Derived.Test.YtiocgmioijcjhaaGateOpen
namespace Go.Proofs.Ytiocgmioijcjhaa.cutsWithin
open Go.ChangeShapes Go.WideShapes Go.ChangeAt Go.RowKit Go.Proofs.Ytiocgmioijcjhaa Go.Proofs.Ytiocgmioijcjhaa.Open
set_option linter.unusedVariables false
theorem anti_at {L : List Nat} (h : Anti L) {k m x y : Nat} (hx : L[k]? = some x) (hy : L[m]? = some y) (hne : k ≠ m) : x &&& y ≠ x := by
  obtain ⟨hk, rfl⟩ := List.getElem?_eq_some_iff.1 hx
  obtain ⟨hm, rfl⟩ := List.getElem?_eq_some_iff.1 hy
  intro e
  rcases Nat.lt_or_gt_of_ne hne with hlt | hlt
  · exact (List.pairwise_iff_getElem.1 h.2 k m hk hm hlt).1 (by rw [Nat.and_comm]; exact e)
  · exact (List.pairwise_iff_getElem.1 h.2 m k hm hk hlt).2 (by rw [Nat.and_comm]; exact e)
def Post (w : World) (e : Ending) (w' : World) : Prop := e = .returned (.bool true) ∧ Below w.heap.size w w'
set_option maxHeartbeats 16000000 in
set_option maxRecDepth 100000 in
theorem way (ts : List GateR) (v : Value) (p q : Nat) (w : World) (hv : GatesAt w v ts) (hp : p < 65536) (hq : q < 65536) (hm : ts.length ≤ 281474976710656) :
    Calls Try.prog 4 #[v, .int .u16 (p : Int), .int .u16 (q : Int)] w (Post w) := by
  obtain ⟨a, cap, rfl⟩ := hv.len
  have HV := Lib.hid hv
  have HB0 : Hid (Below w.heap.size w (w.alloc (.cells #[.int .u16 (p : Int)] 23))) := (Below.refl _ _).alloc (Nat.le_refl _) _
  clear hv
  go_enter Try.func4, Try.ntmps4
  go_wp2_with fail
  refine (either_is _).mono ?_
  rintro e w1 ⟨⟨v1, rfl, hg1⟩, hb1⟩
  have B1 := Lib.hid (HB0.out.trans (hb1.mono HB0.out.size)); have G1 := Lib.hid hg1
  have PC1 : Hid (w1.cell? ⟨w.heap.size, 0, none⟩ = some (.int .u16 (p : Int))) := Lib.hid ((hb1.cell (p := ⟨w.heap.size, 0, none⟩) (by simp)).trans (by go_simp))
  clear hb1 hg1
  go_wp2_with fail
  refine (cuts_yes eitherL _ _ G1.out either_ok).mono ?_
  rintro e w2 ⟨⟨v2, rfl, hi2⟩, hb2⟩
  rw [cuts_either] at hi2
  obtain ⟨a2, c2, hv2⟩ := hi2.len
  subst hv2
  have I2 := Lib.hid hi2
  have B2 := Lib.hid (B1.out.trans (hb2.mono B1.out.size))
  have PC2 : Hid (w2.cell? ⟨w.heap.size, 0, none⟩ = some (.int .u16 (p : Int))) := Lib.hid ((hb2.cell (p := ⟨w.heap.size, 0, none⟩) (World.block_lt_of_cell? _ _ PC1.out)).trans PC1.out)
  clear hb2 hi2
  go_wp2_with fail
  have J2 : Hid (IntsAt .u16 (w2.alloc (.cells #[.int .u16 1, .int .u16 2] 23)) (.slice (some ⟨w2.heap.size, 0, none⟩) 2 2) (u16s [1, 2])) := Lib.hid (OwnU.ints (base := w2.heap.size) (World.ownsRow_lit (size := 1) w2 #[.int .u16 1, .int .u16 2] 2 (Nat.le_refl _) (by decide) rfl))
  have HA2 : Below w2.heap.size w2 (w2.alloc (.cells #[.int .u16 1, .int .u16 2] 23)) := (Below.refl _ _).alloc (Nat.le_refl _) _
  have I3 := Lib.hid (I2.out.later HA2 (Nat.le_refl _))
  refine (equal_u16 (u16s [1, 2]) (u16s [1, 2]) _ _ _ I3.out J2.out (by decide) (by decide)).mono ?_
  rintro e w3 ⟨m3, rfl, rfl⟩
  have B3 : Hid (Below w.heap.size w ((w2.alloc (.cells #[.int .u16 1, .int .u16 2] 23)).drewN m3)) := Lib.hid (below_drewN (B2.out.trans (HA2.mono B2.out.size)) m3)
  have PC3 : Hid (World.cell? ((w2.alloc (.cells #[.int .u16 1, .int .u16 2] 23)).drewN m3) ⟨w.heap.size, 0, none⟩ = some (.int .u16 (p : Int))) := Lib.hid ((HA2.cell (p := ⟨w.heap.size, 0, none⟩) (World.block_lt_of_cell? _ _ PC2.out)).trans PC2.out)
  rw [show decide (u16s [1, 2] = u16s [1, 2]) = true from decide_eq_true rfl]
  clear HA2
  generalize ((w2.alloc (.cells #[.int .u16 1, .int .u16 2] 23)).drewN m3) = w3 at *
  by_cases hok : TreeOk ts
  · have HOK := Lib.hid hok
    clear hok
    go_wp2_with fail
    refine (cuts_yes ts _ _ (HV.out.later B3.out) HOK.out).mono ?_
    rintro e w4 ⟨⟨v4, rfl, hi4⟩, hb4⟩
    have hL := hit_cuts HOK.out
    have hA := cuts_anti HOK.out
    generalize cutsL ts = L at *
    obtain ⟨a4, c4, hv4⟩ := hi4.len
    rw [u16s_len] at hv4
    subst hv4
    have HL := Lib.hid hL; have HA := Lib.hid hA; have I4 := Lib.hid hi4
    have lL := anti_len hA
    have B4 := Lib.hid (B3.out.trans (hb4.mono B3.out.size))
    have PC4 : Hid (w4.cell? ⟨w.heap.size, 0, none⟩ = some (.int .u16 (p : Int))) := Lib.hid ((hb4.cell (p := ⟨w.heap.size, 0, none⟩) (World.block_lt_of_cell? _ _ PC3.out)).trans PC3.out)
    have pc4 := PC4.out
    have pz4 := World.block_lt_of_cell? _ _ pc4
    clear hL hA hi4 hb4
    go_wp2_with fail
    refine (cutsFails_yes ts p _ _ (HV.out.later B4.out) HOK.out hp).mono ?_
    rintro e w5 ⟨rfl, hb5⟩
    have B5 := Lib.hid (B4.out.trans (hb5.mono B4.out.size))
    have pc5 : w5.cell? ⟨w.heap.size, 0, none⟩ = some (.int .u16 (p : Int)) := (hb5.cell (p := ⟨w.heap.size, 0, none⟩) pz4).trans pc4
    have I5 := Lib.hid (I4.out.later hb5 (Nat.le_refl _))
    have pz5 := World.block_lt_of_cell? _ _ pc5
    have hor := or_u16 p q hp hq
    have hpq : p ||| q < 65536 := Nat.or_lt_two_pow (n := 16) hp hq
    clear hb5 pc4 pz4
    go_wp2_with fail
    refine (cutsFails_yes ts (p ||| q) _ _ (HV.out.later B5.out) HOK.out hpq).mono ?_
    rintro e w6 ⟨rfl, hb6⟩
    have B6 := Lib.hid (B5.out.trans (hb6.mono B5.out.size))
    have pc6 : w6.cell? ⟨w.heap.size, 0, none⟩ = some (.int .u16 (p : Int)) := (hb6.cell (p := ⟨w.heap.size, 0, none⟩) pz5).trans pc5
    have I6 := Lib.hid (I5.out.later hb6 (Nat.le_refl _))
    have PC6 := Lib.hid pc6
    clear hb6 pc5 pz5 hor pc6
    go_wp2_with fail
    go_loopw [60] (fun i wr => (∃ k : Nat, k ≤ L.length ∧ i = .int .i64 k) ∧ Below w6.heap.size w6 wr) (fun i _ => L.length - (intOf i).toNat)
    case atStart => exact ⟨⟨0, Nat.zero_le _, rfl⟩, Below.refl _ _⟩
    case round =>
      obtain ⟨⟨k, hk, rfl⟩, hBr⟩ := hrel
      have HBR := Lib.hid hBr
      have zr := hBr.size
      by_cases hlt : k < L.length
      · obtain ⟨x, hxk⟩ : ∃ x, L[k]? = some x := ⟨_, List.getElem?_eq_getElem hlt⟩
        have hx6 : x < 256 := HA.out.1 x (List.mem_of_getElem? hxk)
        obtain ⟨b, off, cap', hv', hl1, hcell⟩ := ints_at (I6.out.later hBr (Nat.le_refl _)) (u16s_at hxk)
        rw [u16s_len] at hl1 hv'
        cases hv'
        have e5 : (k : Int) < (L.length : Int) := by omega
        have e6 : k + 1 ≤ c4 := by omega
        have XK := Lib.hid hxk
        clear hBr hxk
        go_wp2_with fail
        clear hcell
        obtain ⟨W7, hW7⟩ : ∃ W7, wr = W7 := ⟨_, rfl⟩
        subst hW7
        go_loopw [67] (fun j wx => (∃ m : Nat, m ≤ L.length ∧ j = .int .i64 m) ∧ Below w6.heap.size w6 wx) (fun j _ => L.length - (intOf j).toNat)
        case atStart => exact ⟨⟨0, Nat.zero_le _, rfl⟩, HBR.out⟩
        case round =>
          obtain ⟨⟨m, hm2, rfl⟩, hBx⟩ := hrel
          have HBX := Lib.hid hBx
          have zx := hBx.size
          by_cases hlt2 : m < L.length
          · obtain ⟨y, hyk⟩ : ∃ y, L[m]? = some y := ⟨_, List.getElem?_eq_getElem hlt2⟩
            have hy6 : y < 256 := HA.out.1 y (List.mem_of_getElem? hyk)
            obtain ⟨b2, off2, cap2, hv2, hl2, hcell2⟩ := ints_at (I6.out.later hBx (Nat.le_refl _)) (u16s_at hyk)
            rw [u16s_len] at hl2 hv2
            cases hv2
            have e7 : (m : Int) < (L.length : Int) := by omega
            have e8 : m + 1 ≤ c4 := by omega
            have hand := and_u16 x y (by omega) (by omega)
            by_cases hkm : k = m
            · subst hkm
              have ekm : ((k : Int) != (k : Int)) = false := by simp
              clear hBx hyk
              go_wp2
              go_roundw
              case rel => exact ⟨⟨k + 1, by omega, by go_num⟩, HBX.out⟩
              case measure => simp [intOf]; omega
            · have hne := anti_at HA.out XK.out hyk hkm
              have e9 : (((x &&& y : Nat) : Int) == (x : Int)) = false := by
                rw [beq_eq_false_iff_ne]; omega
              have ekm : ((k : Int) != (m : Int)) = true := by simp; omega
              have ekm2 : ¬ (k : Int) = (m : Int) := by omega
              clear hBx hyk hne
              go_wp2
              go_roundw
              case rel => exact ⟨⟨m + 1, by omega, by go_num⟩, HBX.out⟩
              case measure => simp [intOf]; omega
          · obtain rfl : m = L.length := by omega
            clear hBx
            go_wp2_with fail
            refine (cutsFails_yes ts x _ _ (HV.out.later (B6.out.trans (HBX.out.mono B6.out.size))) HOK.out (by omega)).mono ?_
            rintro e w8 ⟨h8, hb8⟩
            rw [← HL.out x, show hit L x = true from hit_iff.2 ⟨x, List.mem_of_getElem? XK.out, Nat.and_self x⟩] at h8
            subst h8
            have B8 := Lib.hid (HBX.out.trans (hb8.mono zx))
            clear hb8
            go_wp2
            go_roundw
            case rel => exact ⟨⟨k + 1, by omega, by go_num⟩, B8.out⟩
            case measure => simp [intOf]; omega
      · obtain rfl : k = L.length := by omega
        have B9 := Lib.hid (B6.out.trans (hBr.mono B6.out.size))
        have hL6 : ∀ c ∈ L, c < 65536 := fun c hc => Nat.lt_trans (HA.out.1 c hc) (by decide)
        have HC9 : Hid (∀ W, Below w6.heap.size w6 W → Calls Try.prog 18 #[.slice a4 L.length c4, .func (.func 19) #[] #[.pointer (some ⟨w.heap.size, 0, none⟩)]] W fun e w' => e = .returned (.bool (hit L p)) ∧ Below W.heap.size W w') := Lib.hid (fun W hW => hasWith_is L p w.heap.size _ _ (I6.out.later hW (Nat.le_refl _)) hp hL6 ((hW.cell (p := ⟨w.heap.size, 0, none⟩) (World.block_lt_of_cell? _ _ PC6.out)).trans PC6.out) (by omega))
        have hmono : topB ts p = true → topB ts (p ||| q) = true := fun h => by rw [← HL.out] at h ⊢; exact hit_more h
        rw [HL.out p] at HC9
        generalize topB ts p = tp at *
        generalize topB ts (p ||| q) = tq at *
        clear hL6
        have HBR2 := Lib.hid hBr
        clear hBr
        cases tp <;> cases tq
        all_goals first | exact absurd (hmono rfl) (by decide) | skip
        all_goals clear hmono
        all_goals go_wp2_with fail
        all_goals refine (HC9.out _ HBR2.out).mono ?_
        all_goals rintro e w9 ⟨rfl, hb9⟩
        all_goals go_wp2
        all_goals go_ret
        all_goals exact ⟨rfl, B9.out.trans (hb9.mono B9.out.size)⟩
  · have HOK := Lib.hid hok
    clear hok
    go_wp2_with fail
    refine (cuts_no ts _ _ (HV.out.later B3.out) HOK.out hm).mono ?_
    rintro e w4 ⟨⟨c, hc, rfl⟩, hb4⟩
    have B4 := Lib.hid (B3.out.trans (hb4.mono B3.out.size))
    have hcb : (c == 0) = false := by simpa using hc
    have hc2 : (c != 0) = true := by simpa using hc
    clear hc hb4
    go_wp2
    go_ret
    exact ⟨rfl, B4.out⟩
theorem law (a : Option Addr) (len cap : Nat) (xs : List RawG) (p q : Int) (w : World)
    (h : IsRecs 3 rawLay (gateFitS w) w a len cap xs) (hr : len ≤ cap ∧ cap * 40 ≤ 140737488351232) (hp : 0 ≤ p ∧ p ≤ 65535) (hq : 0 ≤ q ∧ q ≤ 65535) :
    Calls Try.prog 4 #[.slice a len cap, .int .u16 p, .int .u16 q] w fun e w' => e = .returned (.bool true) ∧ Below w.heap.size w w' := by
  obtain ⟨h1, h2⟩ := raw_trees h
  obtain ⟨p, rfl⟩ := Int.eq_ofNat_of_zero_le hp.1
  obtain ⟨q, rfl⟩ := Int.eq_ofNat_of_zero_le hq.1
  exact way ((xs.take len).map rawG) _ p q w h1 (by omega) (by omega) (by omega)
set_option maxRecDepth 100000 in
theorem lifted (os : Os) (started : os.Started) (H : Type) (enc : TypeId × Value → H) :
    ReturnsInHanded {} Try.checked os 4 .any (Rows.cutsWithinSpec.pre6 enc Try.prog Try.f4 Rows.cutsWithinRow.domain false) (Rows.cutsWithinSpec.post enc Try.prog Try.f4 false true false false) := by
  refine returnsInHanded_of_change_sized (C := Try.checked) own started (by kernel_rfl) Try.func4
    (ChangeSpec.witness6 (enc := enc) (C := Try.checked) false ⟨#[], #[.slice none 0 0, .int .u16 0, .int .u16 0], []⟩ 8 (by kernel_rfl) (by kernel_rfl) (by kernel_rfl) (by kernel_rfl)) ?_
  intro W base args ds gs before hval0 hW hcnd hsz0 _
  have hsz : (DataW.weightsEach Try.prog (Try.f4.params.toList ++ Rows.cutsWithinSpec.plain.varTypes Try.prog) (ds ++ gs)).all (· ≤ reachBytes) = true := hsz0
  have hval : ∀ (j : Nat) t v, Try.f4.params[j]? = some t → args[j]? = some v → Value.okWide Try.prog W .any base t v := hval0
  have hW' := hW
  obtain ⟨p, q, hA0, hV, rfl, hfz, hnd⟩ := hW
  have hA : DataW.TrodAll enc Try.prog W 0 (fun _ => true) true Try.f4.params.toList args.toList ds p := hA0
  rw [Try.params4] at hA hval hsz
  obtain ⟨v0, vs0, d0, ds0, p0, q0, hargs, rfl, rfl, h0, r0⟩ := trodAll_cons hA
  obtain ⟨v1, vs1, d1, ds1, p1, q1, rfl, rfl, rfl, h1, r1⟩ := trodAll_cons r0
  obtain ⟨v2, vs2, d2, ds2, p2, q2, rfl, rfl, rfl, h2, r2⟩ := trodAll_cons r1
  obtain ⟨rfl, rfl, rfl⟩ := trodAll_nil r2
  obtain rfl : args = #[v0, v1, v2] := by cases args; simp_all
  obtain ⟨rfl, rfl⟩ := trodVars_none hV
  have k0 := h0
  have lt0 : ∀ x ∈ p0, x.block < W.heap.size := by obtain ⟨m, hm⟩ := k0; exact DataW.trod_lt m _ _ _ hm
  have k1 := h1
  have lt1 : ∀ x ∈ p1, x.block < W.heap.size := by obtain ⟨m, hm⟩ := k1; exact DataW.trod_lt m _ _ _ hm
  have k2 := h2
  have lt2 : ∀ x ∈ p2, x.block < W.heap.size := by obtain ⟨m, hm⟩ := k2; exact DataW.trod_lt m _ _ _ hm
  obtain ⟨sa0, sl0, sc0, rfl⟩ := okWide_slice Try.underlying22 (hval 0 22 v0 rfl rfl)
  obtain ⟨a0, len0, cap0, z0, e0, w0⟩ := leaf_recsS (ts := [3, 3, 28]) 3 rawLay (gateFitS W) 12 (Try.underlying22) (by kernel_rfl) (by kernel_rfl) rfl gate_decS (by obtain ⟨fuel, hf⟩ := h0; exact ⟨fuel, _, by simpa [Value.cells] using hf, weights_of hsz (j := 0) (t := 22) rfl rfl⟩)
  simp only [Value.slice.injEq] at e0
  obtain ⟨rfl, rfl, rfl⟩ := e0
  have R0 := cap_le (B := 40) Try.underlying22 k0 (fun elems spare hd => by have := sized_slice hsz (j := 0) (t := 22) (e := 30) (elems := elems) (spare := spare) rfl (by rw [← hd]; rfl) Try.underlying22; exact this)
  obtain ⟨a1, rfl, rfl, rfl, w1⟩ := open_int Try.underlying23 (hval 1 23 v1 rfl rfl) h1
  obtain ⟨a2, rfl, rfl, rfl, w2⟩ := open_int Try.underlying23 (hval 2 23 v2 rfl rfl) h2
  clear hA0 hval0
  refine (law sa0 sl0 sc0 z0 a1 a2 W w0 R0 (bounds_u16 w1) (bounds_u16 w2)).mono fun e W' ⟨he, bel⟩ => ?_
  subst he
  exact ⟨_, rfl, _, _, _, [], _, [], hW', trodAll_mk1 (shut_bool Try.underlying4 _), (trodAll_cons_mk (Below.trod laidOut (by kernel_rfl) (of_decide_eq_true (by kernel_rfl)) k0 bel lt0) (trodAll_cons_mk (Below.trod laidOut (by kernel_rfl) (of_decide_eq_true (by kernel_rfl)) k1 bel lt1) (trodAll_cons_mk (Below.trod laidOut (by kernel_rfl) (of_decide_eq_true (by kernel_rfl)) k2 bel lt2) trodAll_mk0))), rfl, bel.frame _, fun h => by cases h⟩
theorem over : Rows.cutsWithinRow.holds Try.pinned (OpenSpec.ofChange Rows.cutsWithinSpec) :=
  OpenClaim.holds_of_wide 4 Try.f4 rfl rfl rfl rfl rfl rfl rfl ⟨rfl, rfl, rfl, rfl, rfl⟩ rfl rfl rfl rfl rfl (by kernel_rfl) Try.func4 (by kernel_rfl)
    (of_decide_eq_true (by kernel_rfl)) (by unfold Func.isWrapper; first | (rw [if_pos (by decide +kernel)]; kernel_rfl) | (rw [if_neg (by decide +kernel)]; exact ⟨rfl, rfl⟩))
    (fun os started H enc _ => lifted os started H enc)
theorem proved : Rows.CutsWithinSaid := over
#print axioms proved

end Go.Proofs.Ytiocgmioijcjhaa.cutsWithin
