/- OddsHalf: whatever the tree and the parts are, the law answers true and leaves memory as it was. -/
import Derived.Test.YtiocgmioijcjhaaOddsOf
import Derived.Test.YtiocgmioijcjhaaOddsCnt
import Derived.Test.YtiocgmioijcjhaaCutsEither
import Derived.Test.YtiocgmioijcjhaaGateOpen
namespace Go.Proofs.Ytiocgmioijcjhaa.oddsHalf
open Go.ChangeShapes Go.WideShapes Go.ChangeAt Go.RowKit Go.Proofs.Ytiocgmioijcjhaa Go.Proofs.Ytiocgmioijcjhaa.Open
set_option linter.unusedVariables false
def Post (w : World) (e : Ending) (w' : World) : Prop := e = .returned (.bool true) ∧ Below w.heap.size w w'
theorem cuts_is : CutsIs := fun ts v w h1 h2 => cuts_yes ts v w h1 h2
/-- eight floats in a block -/
def fL (f : Nat → Nat) : List Value := (List.range 8).map fun i => .float .f64 (f i)
def FAt (w : World) (g : Nat) (f : Nat → Nat) : Prop := w.heap[g]? = some (.cells (fL f).toArray TF (0, 0))
theorem fL_len (f : Nat → Nat) : (fL f).length = 8 := by simp [fL]
theorem FAt.lt {w : World} {g : Nat} {f : Nat → Nat} (h : FAt w g f) : g < w.heap.size := (Array.getElem?_eq_some_iff.1 h).1
theorem FAt.cell {w : World} {g u : Nat} {f : Nat → Nat} (h : FAt w g f) (hu : u < 8) : w.cell? ⟨g, u, none⟩ = some (.float .f64 (f u)) := by
  rw [cell_of_row w g u _ _ _ h]; simp [fL, hu]
theorem FAt.frozen {w : World} {g u : Nat} {f : Nat → Nat} (h : FAt w g f) : w.frozen? ⟨g, u, none⟩ = false := frozen_of_row w g u _ _ h
theorem FAt.set {w : World} {g u : Nat} {f : Nat → Nat} (h : FAt w g f) (hu : u < 8) (x : Nat) : FAt (w.setCell ⟨g, u, none⟩ (.float .f64 x)) g (fun v => if v = u then x else f v) := by
  unfold FAt
  rw [heap_setCell_same w g u _ _ _ h]
  congr 2
  rw [List.setIfInBounds_toArray]
  congr 1
  apply List.ext_getElem?
  intro j
  by_cases hj : j < 8
  · rw [List.getElem?_set]
    by_cases e : u = j
    · subst e; rw [if_pos rfl, if_pos (by rw [fL_len]; exact hu)]; simp [fL, hu]
    · rw [if_neg e]; simp [fL, hj, show ¬ j = u from fun h => e h.symm]
  · rw [List.getElem?_eq_none (by rw [List.length_set, fL_len]; omega), List.getElem?_eq_none (by rw [fL_len]; omega)]
theorem FAt.call {w w' : World} {g : Nat} {f : Nat → Nat} (h : FAt w g f) (hb : Below w.heap.size w w') : FAt w' g f := (hb.block g h.lt).trans h
def mid (p m : Nat) : Nat → Nat := fun i => if i < m then pv (kSure p i) else 0
theorem mid_8 (p : Nat) : fL (mid p 8) = pL (kSure p) := by
  unfold fL pL
  refine List.map_congr_left fun i hi => ?_
  rw [mid, if_pos (List.mem_range.1 hi)]
theorem mid_step (p m : Nat) : (fun v => if v = m then pv (kSure p m) else mid p m v) = mid p (m + 1) := by
  funext v
  unfold mid
  by_cases e : v = m
  · subst e; rw [if_pos rfl, if_pos (by omega)]
  · rw [if_neg e]
    by_cases h : v < m
    · rw [if_pos h, if_pos (by omega)]
    · rw [if_neg h, if_neg (by omega)]
def SRel (p : Nat) (w : World) (g : Nat) (i : Value) (wr : World) : Prop :=
  ∃ m : Nat, m ≤ 8 ∧ i = .int .i64 m ∧ FAt wr g (mid p m) ∧ Below w.heap.size w wr
theorem mask_bit (p m : Nat) (hp : p < 65536) : bits BinOp.and IntKind.u16 ((p : Int) / 2 ^ m) 1 = if p.testBit m then 1 else 0 := by
  have h1 := bits_mask .u16 16 (by decide) wraps_u16 1 (by decide) ((p : Int) / ((2 ^ m : Nat) : Int)) (Int.ediv_nonneg (by omega) (Int.natCast_nonneg _)) (by
    have := Int.ediv_le_self (a := (p : Int)) ((2 ^ m : Nat) : Int) (by omega)
    omega)
  rw [show ((2 : Int) ^ 1 - 1) = 1 from rfl, show ((2 : Int) ^ 1) = 2 from rfl, Int.natCast_pow] at h1
  rw [show ((2 : Nat) : Int) = 2 from rfl] at h1
  rw [h1, Nat.testBit_eq_decide_div_mod_eq]
  have e : ((p : Int) / 2 ^ m % 2) = ((p / 2 ^ m % 2 : Nat) : Int) := by
    rw [Int.natCast_emod, Int.natCast_ediv, Int.natCast_pow]; rfl
  rw [e]
  by_cases h : p / 2 ^ m % 2 = 1
  · rw [h]; rfl
  · rw [if_neg (by simpa using h)]; omega
theorem two_arr : pV kTwo = #[.float .f64 4602678819172646912, .float .f64 4602678819172646912, .float .f64 0, .float .f64 0, .float .f64 0, .float .f64 0, .float .f64 0, .float .f64 0] := rfl
theorem half_arr : pV kHalf = #[.float .f64 4602678819172646912, .float .f64 4602678819172646912, .float .f64 4602678819172646912, .float .f64 4602678819172646912, .float .f64 4602678819172646912, .float .f64 4602678819172646912, .float .f64 4602678819172646912, .float .f64 4602678819172646912] := rfl
theorem two_le : ∀ i, i < 8 → kTwo i ≤ 2 := fun i _ => by unfold kTwo; split <;> omega
theorem half_le : ∀ i, i < 8 → kHalf i ≤ 2 := fun i _ => by unfold kHalf; omega
theorem cmp1 : (FloatKind.f64.format.order 4604930618986332160 4604930618986332160 != some .eq) = false := by decide +kernel
theorem cmp2 : (FloatKind.f64.format.order 0 0 == some .eq) = true := by decide +kernel
theorem cmp3 : (FloatKind.f64.format.order 4607182418800017408 4607182418800017408 == some .eq) = true := by decide +kernel
theorem conv0 : floatOfInt .f64 0 = 0 := by decide +kernel
theorem conv1 : floatOfInt .f64 1 = 4607182418800017408 := by decide +kernel
set_option maxHeartbeats 32000000 in
set_option maxRecDepth 100000 in
theorem way (ts : List GateR) (v : Value) (p : Nat) (w : World) (hv : GatesAt w v ts) (hp : p < 65536) (hm : ts.length ≤ 281474976710656) :
    Calls Try.prog 9 #[v, .int .u16 (p : Int)] w (Post w) := by
  obtain ⟨a, cap, rfl⟩ := hv.len
  have HV := Lib.hid hv
  clear hv
  have hsf : ∀ (a : Addr) (n : Nat) (m : Mode) (w : World), (store a (.float .f64 n) m).run Try.prog w = stored Try.prog w a (.float .f64 n) m := fun a n m w => run_store Try.prog w a _ m rfl
  go_enter Try.func9, Try.ntmps9
  go_wp2_with fail
  refine (either_is _).mono ?_
  rintro e w1 ⟨⟨v1, rfl, hg1⟩, hb1⟩
  obtain ⟨a1, c1, hv1⟩ := hg1.len
  subst hv1
  have B1 := Lib.hid hb1; have G1 := Lib.hid hg1
  clear hb1 hg1
  go_wp2_with fail
  have hO := odds_yes kTwo two_le (fun k hk => add_2 hk) eitherL _ _ G1.out either_ok
  rw [two_arr, two_is] at hO
  refine hO.mono ?_
  rintro e w2 ⟨rfl, hb2⟩
  have B2 := Lib.hid (B1.out.trans (hb2.mono B1.out.size))
  have hc1 := cmp1
  have B3 : Hid (Below w.heap.size w (w2.alloc (.cells #[.float .f64 4602678819172646912, .float .f64 4602678819172646912, .float .f64 4602678819172646912, .float .f64 4602678819172646912, .float .f64 4602678819172646912, .float .f64 4602678819172646912, .float .f64 4602678819172646912, .float .f64 4602678819172646912] TF))) := Lib.hid (B2.out.alloc B2.out.size _)
  clear hb2 hO B1 G1 B2
  go_wp2_with fail
  generalize (w2.alloc (.cells #[.float .f64 4602678819172646912, .float .f64 4602678819172646912, .float .f64 4602678819172646912, .float .f64 4602678819172646912, .float .f64 4602678819172646912, .float .f64 4602678819172646912, .float .f64 4602678819172646912, .float .f64 4602678819172646912] TF)) = w3 at *
  by_cases hok : TreeOk ts
  · have HOK := Lib.hid hok
    clear hok
    have hO := odds_yes kHalf half_le (fun k hk => add_8 hk) ts _ _ (HV.out.later B3.out) HOK.out
    rw [half_arr, half_8] at hO
    refine hO.mono ?_
    rintro e w4 ⟨rfl, hb4⟩
    have B4 := Lib.hid (B3.out.trans (hb4.mono B3.out.size))
    have hnn : cntT ts = ((cntP kHalf ts 256 : Nat) : Int) := (half_cnt ts 256).symm
    have hnl := cntP_le kHalf ts 256
    obtain ⟨N, hN⟩ : ∃ N, cntP kHalf ts 256 = N := ⟨_, rfl⟩
    rw [hN] at hnn hnl ⊢
    have HNN := Lib.hid hnn
    clear hb4 hO hN hnn
    go_wp2_with fail
    refine (count_yes cuts_is ts _ _ (HV.out.later B4.out) HOK.out).mono ?_
    rintro e w5 ⟨rfl, hb5⟩
    rw [HNN.out]
    have B5 := Lib.hid (B4.out.trans (hb5.mono B4.out.size))
    have R6 : Hid (FAt (w5.alloc (.cells #[.float .f64 0, .float .f64 0, .float .f64 0, .float .f64 0, .float .f64 0, .float .f64 0, .float .f64 0, .float .f64 0] TF)) w5.heap.size (mid p 0)) := Lib.hid (heap_alloc_new w5 _)
    have B6 : Hid (Below w5.heap.size w5 (w5.alloc (.cells #[.float .f64 0, .float .f64 0, .float .f64 0, .float .f64 0, .float .f64 0, .float .f64 0, .float .f64 0, .float .f64 0] TF))) := Lib.hid ((Below.refl _ _).alloc (Nat.le_refl _) _)
    clear hb5
    go_wp2_with fail
    generalize (w5.alloc (.cells #[.float .f64 0, .float .f64 0, .float .f64 0, .float .f64 0, .float .f64 0, .float .f64 0, .float .f64 0, .float .f64 0] TF)) = w6 at *
    go_loopw [47] (fun i wr => SRel p w5 w5.heap.size i wr) (fun i _ => 8 - (intOf i).toNat)
    case atStart => exact ⟨0, by omega, rfl, R6.out, B6.out⟩
    case round =>
      clear R6 B6
      obtain ⟨m, hm2, rfl, hR, hB⟩ := hrel
      have HR := Lib.hid hR; have HB := Lib.hid hB
      have zB := hB.size
      have zR := hR.lt
      by_cases hlt : m < 8
      · have e5 : (m : Int) < 8 := by omega
        have hm16 : min m 16 = m := by omega
        have eb := mask_bit p m hp
        have hcc := hR.cell hlt
        have hcf := hR.frozen (u := m)
        have HST := Lib.hid (mid_step p m)
        have hkv : pv (kSure p m) = if p.testBit m then 4607182418800017408 else 0 := by unfold kSure; cases p.testBit m <;> rfl
        obtain ⟨y, hy⟩ : ∃ y, mid p m m = y := ⟨_, rfl⟩
        rw [hy] at hcc
        have c0 := conv0; have c1 := conv1
        clear hR hB hy
        cases hb : p.testBit m
        · rw [hb] at eb hkv
          simp only [Bool.false_eq_true, if_false] at eb hkv
          have HKV := Lib.hid hkv
          clear hb hkv
          go_wp2_with fail
          go_roundw
          case rel => exact ⟨m + 1, by omega, by go_num, by have h5 := HR.out.set hlt (pv (kSure p m)); rw [HST.out, HKV.out] at h5; exact h5, HB.out.setCell (p := ⟨w5.heap.size, m, none⟩) (Nat.le_refl _) _⟩
          case measure => simp [intOf]; omega
        · rw [hb] at eb hkv
          simp only [if_true] at eb hkv
          have HKV := Lib.hid hkv
          clear hb hkv
          go_wp2_with fail
          go_roundw
          case rel => exact ⟨m + 1, by omega, by go_num, by have h5 := HR.out.set hlt (pv (kSure p m)); rw [HST.out, HKV.out] at h5; exact h5, HB.out.setCell (p := ⟨w5.heap.size, m, none⟩) (Nat.le_refl _) _⟩
          case measure => simp [intOf]; omega
      · obtain rfl : m = 8 := by omega
        rw [show ((8 : Nat) : Int) = 8 from rfl]
        have hrow : wr.heap[w5.heap.size]? = some (.cells (pV (kSure p)) TF (0, 0)) := by
          have := hR; unfold FAt at this; rw [mid_8] at this; exact this
        have hinf := p_info (kSure p)
        have B8 := Lib.hid (B5.out.trans (hB.mono B5.out.size))
        clear hR hB HR
        go_wp2_with (refine wpList_load_row rfl TF (.tmp 12) rfl w5.heap.size (by simp [Act.eval]) TF (pV (kSure p)) (0, 0) _ hrow Try.underlying63 rfl hinf ?_; go_frame)
        clear hrow hinf
        refine (odds_yes (kSure p) (fun i _ => sure_le p i) (fun k hk => by rw [sure_0]; exact add_0 hk) ts _ _ (HV.out.later B8.out) HOK.out).mono ?_
        rintro e w9 ⟨rfl, hb9⟩
        rw [sure_is]
        have B9 := Lib.hid (B8.out.trans (hb9.mono B8.out.size))
        have hand : bits BinOp.and IntKind.u16 (p : Int) 255 = ((p % 256 : Nat) : Int) := by
          have h1 := and_u16 p 255 hp (by decide)
          rw [Nat.and_two_pow_sub_one_eq_mod p 8] at h1
          exact h1
        have hp8 : p % 256 < 256 := Nat.mod_lt _ (by decide)
        obtain ⟨q, hq⟩ : ∃ q, p % 256 = q := ⟨_, rfl⟩
        rw [hq] at hand hp8 ⊢
        obtain ⟨Y, hY⟩ : ∃ Y, (if topB ts q then fOne else 0) = Y := ⟨_, rfl⟩
        rw [hY]
        have HY := Lib.hid hY
        clear hb9 hq hY
        go_wp2_with fail
        refine (cutsFails_yes ts q _ _ (HV.out.later B9.out) HOK.out (by omega)).mono ?_
        rintro e w10 ⟨rfl, hb10⟩
        have B10 := Lib.hid (B9.out.trans (hb10.mono B9.out.size))
        obtain ⟨qu, hoo⟩ := quo_is (n := N) hnl
        have rq : ∀ w, (binOp .quo 60 (.float .f64 (floatOfInt .f64 (N : Int))) (.float .f64 4643211215818981376)).run Try.prog w = .ok (.float .f64 (fB N 8)) w := fun w => run_float_arith w _ _ _ _ _ _ qu
        obtain ⟨X, hX⟩ : ∃ X, fB N 8 = X := ⟨_, rfl⟩
        rw [hX] at rq hoo ⊢
        have hc2 := cmp2; have hc3 := cmp3
        clear hb10 qu hX hand
        have hY := HY.out
        clear HY
        cases hq : topB ts q
        · rw [hq, if_neg (by decide)] at hY
          subst hY
          clear hq
          go_wp2_with fail
          go_ret
          exact ⟨rfl, B10.out⟩
        · rw [hq, if_pos rfl] at hY
          subst hY
          clear hq
          go_wp2_with fail
          go_ret
          exact ⟨rfl, B10.out⟩
  · have HOK := Lib.hid hok
    clear hok
    have hO := odds_no kHalf ts _ _ (HV.out.later B3.out) HOK.out hm
    rw [half_arr] at hO
    refine hO.mono ?_
    rintro e w4 ⟨⟨c, hc, rfl⟩, hb4⟩
    have B4 := Lib.hid (B3.out.trans (hb4.mono B3.out.size))
    have hcb : (c == 0) = false := by simpa using hc
    have hc2 : (c != 0) = true := by simpa using hc
    have hc3 := cmp2
    clear hc hb4 hO
    go_wp2_with fail
    go_ret
    exact ⟨rfl, B4.out⟩
theorem law (a : Option Addr) (len cap : Nat) (xs : List RawG) (p : Int) (w : World)
    (h : IsRecs 3 rawLay (gateFitS w) w a len cap xs) (hr : len ≤ cap ∧ cap * 40 ≤ 140737488351232) (hp : 0 ≤ p ∧ p ≤ 65535) :
    Calls Try.prog 9 #[.slice a len cap, .int .u16 p] w fun e w' => e = .returned (.bool true) ∧ Below w.heap.size w w' := by
  obtain ⟨h1, h2⟩ := raw_trees h
  obtain ⟨p, rfl⟩ := Int.eq_ofNat_of_zero_le hp.1
  exact way ((xs.take len).map rawG) _ p w h1 (by omega) (by omega)
set_option maxRecDepth 100000 in
theorem lifted (os : Os) (started : os.Started) (H : Type) (enc : TypeId × Value → H) :
    ReturnsInHanded {} Try.checked os 9 .any (Rows.oddsHalfSpec.pre6 enc Try.prog Try.f9 Rows.oddsHalfRow.domain false) (Rows.oddsHalfSpec.post enc Try.prog Try.f9 false true false false) := by
  refine returnsInHanded_of_change_sized (C := Try.checked) own started (by kernel_rfl) Try.func9
    (ChangeSpec.witness6 (enc := enc) (C := Try.checked) false ⟨#[], #[.slice none 0 0, .int .u16 0], []⟩ 8 (by kernel_rfl) (by kernel_rfl) (by kernel_rfl) (by kernel_rfl)) ?_
  intro W base args ds gs before hval0 hW hcnd hsz0 _
  have hsz : (DataW.weightsEach Try.prog (Try.f9.params.toList ++ Rows.oddsHalfSpec.plain.varTypes Try.prog) (ds ++ gs)).all (· ≤ reachBytes) = true := hsz0
  have hval : ∀ (j : Nat) t v, Try.f9.params[j]? = some t → args[j]? = some v → Value.okWide Try.prog W .any base t v := hval0
  have hW' := hW
  obtain ⟨p, q, hA0, hV, rfl, hfz, hnd⟩ := hW
  have hA : DataW.TrodAll enc Try.prog W 0 (fun _ => true) true Try.f9.params.toList args.toList ds p := hA0
  rw [Try.params9] at hA hval hsz
  obtain ⟨v0, vs0, d0, ds0, p0, q0, hargs, rfl, rfl, h0, r0⟩ := trodAll_cons hA
  obtain ⟨v1, vs1, d1, ds1, p1, q1, rfl, rfl, rfl, h1, r1⟩ := trodAll_cons r0
  obtain ⟨rfl, rfl, rfl⟩ := trodAll_nil r1
  obtain rfl : args = #[v0, v1] := by cases args; simp_all
  obtain ⟨rfl, rfl⟩ := trodVars_none hV
  have k0 := h0
  have lt0 : ∀ x ∈ p0, x.block < W.heap.size := by obtain ⟨m, hm⟩ := k0; exact DataW.trod_lt m _ _ _ hm
  have k1 := h1
  have lt1 : ∀ x ∈ p1, x.block < W.heap.size := by obtain ⟨m, hm⟩ := k1; exact DataW.trod_lt m _ _ _ hm
  obtain ⟨sa0, sl0, sc0, rfl⟩ := okWide_slice Try.underlying22 (hval 0 22 v0 rfl rfl)
  obtain ⟨a0, len0, cap0, z0, e0, w0⟩ := leaf_recsS (ts := [3, 3, 28]) 3 rawLay (gateFitS W) 12 (Try.underlying22) (by kernel_rfl) (by kernel_rfl) rfl gate_decS (by obtain ⟨fuel, hf⟩ := h0; exact ⟨fuel, _, by simpa [Value.cells] using hf, weights_of hsz (j := 0) (t := 22) rfl rfl⟩)
  simp only [Value.slice.injEq] at e0
  obtain ⟨rfl, rfl, rfl⟩ := e0
  have R0 := cap_le (B := 40) Try.underlying22 k0 (fun elems spare hd => by have := sized_slice hsz (j := 0) (t := 22) (e := 30) (elems := elems) (spare := spare) rfl (by rw [← hd]; rfl) Try.underlying22; exact this)
  obtain ⟨a1, rfl, rfl, rfl, w1⟩ := open_int Try.underlying23 (hval 1 23 v1 rfl rfl) h1
  clear hA0 hval0
  refine (law sa0 sl0 sc0 z0 a1 W w0 R0 (bounds_u16 w1)).mono fun e W' ⟨he, bel⟩ => ?_
  subst he
  exact ⟨_, rfl, _, _, _, [], _, [], hW', trodAll_mk1 (shut_bool Try.underlying4 _), (trodAll_cons_mk (Below.trod laidOut (by kernel_rfl) (of_decide_eq_true (by kernel_rfl)) k0 bel lt0) (trodAll_cons_mk (Below.trod laidOut (by kernel_rfl) (of_decide_eq_true (by kernel_rfl)) k1 bel lt1) trodAll_mk0)), rfl, bel.frame _, fun h => by cases h⟩
theorem over : Rows.oddsHalfRow.holds Try.pinned (OpenSpec.ofChange Rows.oddsHalfSpec) :=
  OpenClaim.holds_of_wide 9 Try.f9 rfl rfl rfl rfl rfl rfl rfl ⟨rfl, rfl, rfl, rfl, rfl⟩ rfl rfl rfl rfl rfl (by kernel_rfl) Try.func9 (by kernel_rfl)
    (of_decide_eq_true (by kernel_rfl)) (by unfold Func.isWrapper; first | (rw [if_pos (by decide +kernel)]; kernel_rfl) | (rw [if_neg (by decide +kernel)]; exact ⟨rfl, rfl⟩))
    (fun os started H enc _ => lifted os started H enc)
theorem proved : Rows.OddsHalfSaid := over
#print axioms proved

end Go.Proofs.Ytiocgmioijcjhaa.oddsHalf
