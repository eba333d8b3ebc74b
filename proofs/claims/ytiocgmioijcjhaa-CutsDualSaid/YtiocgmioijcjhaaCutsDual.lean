/- CutsDual: whatever the tree and the parts are, the law answers true and leaves memory as it was. -/
import Derived.Test.YtiocgmioijcjhaaGateOpen
namespace Go.Proofs.Ytiocgmioijcjhaa.cutsDual
open Go.ChangeShapes Go.WideShapes Go.ChangeAt Go.RowKit Go.Proofs.Ytiocgmioijcjhaa Go.Proofs.Ytiocgmioijcjhaa.Open
set_option linter.unusedVariables false
set_option maxHeartbeats 2000000 in
set_option maxRecDepth 100000 in
/-- the comparison of a gate with itself -/
theorem same_is (kd n : Int) (of : List Int) (a1 a2 : Option Addr) (c1 c2 : Nat) (w : World) (h1 : IntsAt .i64 w (.slice a1 of.length c1) of) (h2 : IntsAt .i64 w (.slice a2 of.length c2) of) (hl : of.length ≤ 281474976710656) :
    Calls Try.prog 14 #[.agg #[.int .i64 kd, .int .i64 n, .slice a1 of.length c1], .agg #[.int .i64 kd, .int .i64 n, .slice a2 of.length c2]] w fun e w' => e = .returned (.bool true) ∧ Below w.heap.size w w' := by
  have H1 := Lib.hid h1; have H2 := Lib.hid h2
  have BB : Hid (Below w.heap.size w ((w.alloc (.cells #[.int .i64 kd, .int .i64 n, .slice a1 of.length c1] TGate)).alloc (.cells #[.int .i64 kd, .int .i64 n, .slice a2 of.length c2] TGate))) := ((Below.refl w.heap.size w).alloc (Nat.le_refl _) _).alloc (by simp) _
  clear h1 h2
  go_enter Try.func14, Try.ntmps14
  go_wp2_with fail
  refine (equal_i64 of of _ _ _ (H1.out.later BB.out (Nat.le_refl _)) (H2.out.later BB.out (Nat.le_refl _)) (by omega) (by omega)).mono ?_
  rintro e w1 ⟨m1, rfl, rfl⟩
  rw [show decide (of = of) = true from decide_eq_true rfl]
  go_wp2
  go_ret
  exact ⟨rfl, below_drewN BB.out m1⟩
set_option maxHeartbeats 4000000 in
set_option maxRecDepth 100000 in
theorem eqFunc_is (ts : List GateR) (v u : Value) (w : World) (hv : GatesAt w v ts) (hu : GatesAt w u ts) (hm : ts.length ≤ 281474976710656) :
    Calls Try.prog 13 #[v, u, .func (.func 14) #[] #[]] w fun e w' => e = .returned (.bool true) ∧ Below w.heap.size w w' := by
  obtain ⟨a1, c1, rfl⟩ := hv.len
  obtain ⟨a2, c2, rfl⟩ := hu.len
  have HV := Lib.hid hv; have HU := Lib.hid hu
  clear hv hu
  go_enter Try.func13, Try.ntmps13
  go_wp2_with fail
  go_loopw [17] (fun i wr => (∃ k : Nat, k ≤ ts.length ∧ i = .int .i64 k) ∧ Below w.heap.size w wr) (fun i _ => ts.length - (intOf i).toNat)
  case atStart => exact ⟨⟨0, Nat.zero_le _, rfl⟩, Below.refl _ _⟩
  case round =>
    obtain ⟨⟨k, hk, rfl⟩, hB⟩ := hrel
    have HB := Lib.hid hB
    have zB := hB.size
    by_cases hlt : k < ts.length
    · obtain ⟨g, hg⟩ : ∃ g, ts[k]? = some g := ⟨_, List.getElem?_eq_getElem hlt⟩
      obtain ⟨b, off, cap, hv', hl1, x0, x1, ao, co, x2, hof, hofl⟩ := (HV.out.later hB).at_ hg
      cases hv'
      obtain ⟨kd, n, of⟩ := g
      simp only at x0 x1 x2 hof hofl
      have BA : Hid (Below wr.heap.size wr (wr.alloc (.cells #[.int .i64 kd, .int .i64 n, .slice ao of.length co] TGate))) := (Below.refl wr.heap.size wr).alloc (Nat.le_refl _) _
      obtain ⟨b2, off2, cap2, hu', hl2, y0, y1, ao2, co2, y2, hof2, -⟩ := (HU.out.later (hB.alloc (by omega) (.cells #[.int .i64 kd, .int .i64 n, .slice ao of.length co] TGate))).at_ hg
      cases hu'
      simp only at y0 y1 y2 hof2
      have HOF := Lib.hid hof; have HOF2 := Lib.hid hof2
      have e5 : (k : Int) < (ts.length : Int) := by omega
      have e6 : k + 1 ≤ c1 := by omega
      have e7 : k + 1 ≤ c2 := by omega
      have BB : Hid (Below wr.heap.size wr ((wr.alloc (.cells #[.int .i64 kd, .int .i64 n, .slice ao of.length co] TGate)).alloc (.cells #[.int .i64 kd, .int .i64 n, .slice ao2 of.length co2] TGate))) := ((Below.refl wr.heap.size wr).alloc (Nat.le_refl _) _).alloc (by simp) _
      have BB2 : Hid (Below (wr.heap.size + 1) (wr.alloc (.cells #[.int .i64 kd, .int .i64 n, .slice ao of.length co] TGate)) ((wr.alloc (.cells #[.int .i64 kd, .int .i64 n, .slice ao of.length co] TGate)).alloc (.cells #[.int .i64 kd, .int .i64 n, .slice ao2 of.length co2] TGate))) := (Below.refl _ _).alloc (by simp) _
      clear hg hof hof2 hB
      go_upto_region 7 with (fail)
      have A1 : Hid (CellsAt ((wr.alloc (.cells #[.int .i64 kd, .int .i64 n, .slice ao of.length co] TGate)).alloc (.cells #[.int .i64 kd, .int .i64 n, .slice ao2 of.length co2] TGate)) wr.heap.size [.int .i64 kd, .int .i64 n, .slice ao of.length co]) := (CellsAt.new wr _ _ _ rfl).alloc _
      have A2 : Hid (CellsAt ((wr.alloc (.cells #[.int .i64 kd, .int .i64 n, .slice ao of.length co] TGate)).alloc (.cells #[.int .i64 kd, .int .i64 n, .slice ao2 of.length co2] TGate)) (wr.heap.size + 1) [.int .i64 kd, .int .i64 n, .slice ao2 of.length co2]) := CellsAt.new' (by simp) rfl
      clear x0 x1 x2 y0 y1 y2
      generalize (wr.alloc (.cells #[.int .i64 kd, .int .i64 n, .slice ao of.length co] TGate)).alloc (.cells #[.int .i64 kd, .int .i64 n, .slice ao2 of.length co2] TGate) = w5 at *
      have p0 := A1.out.at_ 0 rfl; have p1 := A1.out.at_ 1 rfl; have p2 := A1.out.at_ 2 rfl; have pz := A1.out.lt
      have q0 := A2.out.at_ 0 rfl; have q1 := A2.out.at_ 1 rfl; have q2 := A2.out.at_ 2 rfl; have qz := A2.out.lt
      go_wp2_with fail
      refine (same_is kd n of ao ao2 co co2 _ (HOF.out.later BB.out (Nat.le_refl _)) (HOF2.out.later (BB2.out) (by simp)) hofl).mono ?_
      rintro e w6 ⟨rfl, hb6⟩
      have B6 := Lib.hid ((HB.out.trans (BB.out.mono zB)).trans (hb6.mono (Nat.le_trans zB BB.out.size)))
      clear hb6 p0 p1 p2 pz q0 q1 q2 qz A1 A2
      go_wp2
      go_roundw
      case rel => exact ⟨⟨k + 1, by omega, by go_num⟩, B6.out⟩
      case measure => simp [intOf]; omega
    · obtain rfl : k = ts.length := by omega
      clear hB
      go_wp2
      go_ret
      exact ⟨rfl, HB.out⟩
theorem own_gates {W : World} {base : Nat} {v : Value} {gs : List GateV} {ts : List GateR} (h : OwnTree W base v gs) (e : gs.map (·.1) = ts) (hok : TreeOk ts) : GatesAt W v ts := by
  have h1 := h.gates (fun x hx => by
    obtain ⟨i, hi⟩ := List.getElem?_of_mem hx
    have := (hok.2.2 i x.1 (by rw [← e, List.getElem?_map, hi]; rfl)).2.1
    omega) (by
    have := hok.2.1
    rw [← e, List.length_map] at this
    omega)
  rwa [e] at h1
theorem hNot (p : Nat) (hp : p < 65536) : bits BinOp.and IntKind.u16 (bits BinOp.xor IntKind.u16 IntKind.u16.max (p : Int)) 255 = ((255 - p % 256 : Nat) : Int) := by
  have h1 : bits BinOp.xor IntKind.u16 IntKind.u16.max (p : Int) = ((65535 - p : Nat) : Int) := by
    have h0 : IntKind.max .u16 = ((65535 : Nat) : Int) := by decide
    rw [h0]
    simp only [bits, BitVec.ofInt_natCast]
    show IntKind.u16.wrap (((BitVec.ofNat 16 65535 ^^^ BitVec.ofNat 16 p).toNat : Nat) : Int) = _
    have h2 : (BitVec.ofNat 16 65535 ^^^ BitVec.ofNat 16 p).toNat = 65535 - p := by
      rw [show BitVec.ofNat 16 65535 = BitVec.allOnes 16 from rfl, BitVec.allOnes_xor, BitVec.toNat_not, BitVec.toNat_ofNat, Nat.mod_eq_of_lt (by omega)]
    rw [h2]
    exact wraps_u16 _ (by omega) (by omega)
  rw [h1]
  have := bits_mask .u16 16 (by decide) wraps_u16 8 (by decide) ((65535 - p : Nat) : Int) (by omega) (by omega)
  rw [show (2 : Int) ^ 8 = 256 from rfl, show (256 : Int) - 1 = 255 from rfl] at this
  rw [this]; omega
def Post (w : World) (e : Ending) (w' : World) : Prop := e = .returned (.bool true) ∧ Below w.heap.size w w'
set_option maxHeartbeats 8000000 in
set_option maxRecDepth 100000 in
theorem way (ts : List GateR) (v : Value) (p : Nat) (w : World) (hv : GatesAt w v ts) (hp : p < 65536) (hm : ts.length ≤ 281474976710656) :
    Calls Try.prog 3 #[v, .int .u16 (p : Int)] w (Post w) := by
  obtain ⟨a, cap, rfl⟩ := hv.len
  have HV := Lib.hid hv
  clear hv
  go_enter Try.func3, Try.ntmps3
  go_wp2_with fail
  refine (either_is _).mono ?_
  rintro e w1 ⟨⟨v1, rfl, hg1⟩, hb1⟩
  have B1 := Lib.hid hb1; have G1 := Lib.hid hg1
  clear hb1 hg1
  go_wp2_with fail
  refine (dual_yes eitherL _ _ G1.out either_ok).mono ?_
  rintro e w2 ⟨⟨v2, gs2, rfl, hgs2, hO2⟩, hb2⟩
  have B2 := Lib.hid (B1.out.trans (hb2.mono B1.out.size))
  have g2 := own_gates hO2 hgs2 (dual_ok either_ok)
  obtain ⟨b2, off2, cap2, hv2, hl2, d0, d1, ao2, co2, d2, -, -⟩ := g2.at_ (i := 2) (g := (2, 0, [0, 1])) (by decide)
  rw [show (dualL eitherL).length = 3 by decide] at hv2 hl2
  cases hv2
  have e0 : 3 ≤ cap2 := hl2
  clear hb2 hgs2 hO2 g2 hl2 d1 d2 B1
  by_cases hok : TreeOk ts
  · have HOK := Lib.hid hok
    clear hok
    go_wp2_with fail
    refine (dual_yes ts _ _ (HV.out.later B2.out) HOK.out).mono ?_
    rintro e w3 ⟨⟨v3, gs3, rfl, hgs3, hO3⟩, hb3⟩
    have B3 := Lib.hid (B2.out.trans (hb3.mono B2.out.size))
    have g3 := own_gates hO3 hgs3 (dual_ok HOK.out)
    obtain ⟨a3, cap3, h3⟩ := g3.len
    rw [dual_len] at h3
    subst h3
    have G3 := Lib.hid g3
    have hn1 := HOK.out.1; have hn2 := HOK.out.2.1
    clear hb3 hgs3 hO3 g3 d0
    go_wp2_with fail
    refine (dual_yes (dualL ts) _ _ G3.out (dual_ok HOK.out)).mono ?_
    rintro e w4 ⟨⟨v4, gs4, rfl, hgs4, hO4⟩, hb4⟩
    rw [dual_dual HOK.out] at hgs4
    have B4 := Lib.hid (B3.out.trans (hb4.mono B3.out.size))
    have g4 := own_gates hO4 hgs4 HOK.out
    obtain ⟨a4, cap4, rfl⟩ := g4.len
    have G4 := Lib.hid g4
    have GB3 := Lib.hid (G3.out.later hb4)
    clear hb4 hgs4 hO4 g4
    go_wp2_with fail
    have hA : bits BinOp.and IntKind.u16 (p : Int) 255 = ((p % 256 : Nat) : Int) := by
      have := bits_mask .u16 16 (by decide) wraps_u16 8 (by decide) (p : Int) (by omega) (by omega)
      rw [show (2 : Int) ^ 8 = 256 from rfl, show (256 : Int) - 1 = 255 from rfl] at this
      rw [this]; omega
    rw [hA]
    refine (cutsFails_yes ts (p % 256) _ _ ((HV.out.later B4.out)) HOK.out (by omega)).mono ?_
    rintro e w5 ⟨rfl, hb5⟩
    have B5 := Lib.hid (B4.out.trans (hb5.mono B4.out.size))
    have GD := Lib.hid (GB3.out.later hb5)
    have GU := Lib.hid (G4.out.later hb5)
    clear hb5 hA
    go_wp2_with fail
    rw [hNot p hp]
    refine (cutsFails_yes (dualL ts) (255 - p % 256) _ _ GD.out (dual_ok HOK.out) (by omega)).mono ?_
    rintro e w6 ⟨h6, hb6⟩
    rw [top_dual HOK.out (by omega)] at h6
    subst h6
    have B6 := Lib.hid (B5.out.trans (hb6.mono B5.out.size))
    have GW := Lib.hid (GU.out.later hb6)
    clear hb6
    generalize topB ts (p % 256) = tb
    cases tb
    all_goals go_wp2_with fail
    all_goals refine (eqFunc_is ts _ _ _ GW.out (HV.out.later B6.out) (by omega)).mono ?_
    all_goals rintro e w7 ⟨rfl, hb7⟩
    all_goals go_wp2
    all_goals go_ret
    all_goals exact ⟨rfl, B6.out.trans (hb7.mono B6.out.size)⟩
  · have HOK := Lib.hid hok
    clear hok
    go_wp2_with fail
    refine (dual_no ts _ _ (HV.out.later B2.out) HOK.out hm).mono ?_
    rintro e w3 ⟨⟨c, hc, rfl⟩, hb3⟩
    have B3 := Lib.hid (B2.out.trans (hb3.mono B2.out.size))
    have hcb : (c == 0) = false := by simpa using hc
    have hc2 : (c != 0) = true := by simpa using hc
    clear hc hb3 d0
    go_wp2
    go_ret
    exact ⟨rfl, B3.out⟩
theorem law (a : Option Addr) (len cap : Nat) (xs : List RawG) (p : Int) (w : World)
    (h : IsRecs 3 rawLay (gateFitS w) w a len cap xs) (hr : len ≤ cap ∧ cap * 40 ≤ 140737488351232) (hp : 0 ≤ p ∧ p ≤ 65535) :
    Calls Try.prog 3 #[.slice a len cap, .int .u16 p] w fun e w' => e = .returned (.bool true) ∧ Below w.heap.size w w' := by
  obtain ⟨h1, h2⟩ := raw_trees h
  obtain ⟨q, rfl⟩ := Int.eq_ofNat_of_zero_le hp.1
  exact way ((xs.take len).map rawG) _ q w h1 (by omega) (by omega)
set_option maxRecDepth 100000 in
theorem lifted (os : Os) (started : os.Started) (H : Type) (enc : TypeId × Value → H) :
    ReturnsInHanded {} Try.checked os 3 .any (Rows.cutsDualSpec.pre6 enc Try.prog Try.f3 Rows.cutsDualRow.domain false) (Rows.cutsDualSpec.post enc Try.prog Try.f3 false true false false) := by
  refine returnsInHanded_of_change_sized (C := Try.checked) own started (by kernel_rfl) Try.func3
    (ChangeSpec.witness6 (enc := enc) (C := Try.checked) false ⟨#[], #[.slice none 0 0, .int .u16 0], []⟩ 8 (by kernel_rfl) (by kernel_rfl) (by kernel_rfl) (by kernel_rfl)) ?_
  intro W base args ds gs before hval0 hW hcnd hsz0 _
  have hsz : (DataW.weightsEach Try.prog (Try.f3.params.toList ++ Rows.cutsDualSpec.plain.varTypes Try.prog) (ds ++ gs)).all (· ≤ reachBytes) = true := hsz0
  have hval : ∀ (j : Nat) t v, Try.f3.params[j]? = some t → args[j]? = some v → Value.okWide Try.prog W .any base t v := hval0
  have hW' := hW
  obtain ⟨p, q, hA0, hV, rfl, hfz, hnd⟩ := hW
  have hA : DataW.TrodAll enc Try.prog W 0 (fun _ => true) true Try.f3.params.toList args.toList ds p := hA0
  rw [Try.params3] at hA hval hsz
  obtain ⟨v0, vs0, d0, ds0, p0, q0, hargs, rfl, rfl, h0, r0⟩ := trodAll_cons hA
  obtain ⟨v1, vs1, d1, ds1, p1, q1, rfl, rfl, rfl, h1, r1⟩ := trodAll_cons r0
  obtain ⟨rfl, rfl, rfl⟩ := trodAll_nil r1
  obtain rfl : args = #[v0, v1] := by cases args; simp_all
  obtain ⟨rfl, rfl⟩ := trodVars_none hV
  have k0 := h0
  have lt0 : ∀ x ∈ p0, x.block < W.heap.size := by obtain ⟨m, hm⟩ := k0; exact DataW.trod_lt m _ _ _ hm
  have k1 := h1
  have lt1 : ∀ x ∈ p1, x.block < W.heap.size := by obtain ⟨m, hm⟩ := k1; exact DataW.trod_lt m _ _ _ hm
  obtain ⟨sa0, sl0, sc0, rfl⟩ := okWide_slice Try.underlying22 (hval 0 22 v0 rfl rfl)
  obtain ⟨a0, len0, cap0, z0, e0, w0⟩ := leaf_recsS (ts := [3, 3, 28]) 3 rawLay (gateFitS W) 12 (Try.underlying22) (by kernel_rfl) (by kernel_rfl) rfl gate_decS (by obtain ⟨fuel, hf⟩ := h0; exact ⟨fuel, _, by simpa [Value.cells] using hf, weights_of hsz (j := 0) (t := 22) rfl rfl⟩)
  simp only [Value.slice.injEq] at e0
  obtain ⟨rfl, rfl, rfl⟩ := e0
  have R0 := cap_le (B := 40) Try.underlying22 k0 (fun elems spare hd => by have := sized_slice hsz (j := 0) (t := 22) (e := 30) (elems := elems) (spare := spare) rfl (by rw [← hd]; rfl) Try.underlying22; exact this)
  obtain ⟨a1, rfl, rfl, rfl, w1⟩ := open_int Try.underlying23 (hval 1 23 v1 rfl rfl) h1
  clear hA0 hval0
  refine (law sa0 sl0 sc0 z0 a1 W w0 R0 (bounds_u16 w1)).mono fun e W' ⟨he, bel⟩ => ?_
  subst he
  exact ⟨_, rfl, _, _, _, [], _, [], hW', trodAll_mk1 (shut_bool Try.underlying4 _), (trodAll_cons_mk (Below.trod laidOut (by kernel_rfl) (of_decide_eq_true (by kernel_rfl)) k0 bel lt0) (trodAll_cons_mk (Below.trod laidOut (by kernel_rfl) (of_decide_eq_true (by kernel_rfl)) k1 bel lt1) trodAll_mk0)), rfl, bel.frame _, fun h => by cases h⟩
theorem over : Rows.cutsDualRow.holds Try.pinned (OpenSpec.ofChange Rows.cutsDualSpec) :=
  OpenClaim.holds_of_wide 3 Try.f3 rfl rfl rfl rfl rfl rfl rfl ⟨rfl, rfl, rfl, rfl, rfl⟩ rfl rfl rfl rfl rfl (by kernel_rfl) Try.func3 (by kernel_rfl)
    (of_decide_eq_true (by kernel_rfl)) (by unfold Func.isWrapper; first | (rw [if_pos (by decide +kernel)]; kernel_rfl) | (rw [if_neg (by decide +kernel)]; exact ⟨rfl, rfl⟩))
    (fun os started H enc _ => lifted os started H enc)
theorem proved : Rows.CutsDualSaid := over
#print axioms proved

end Go.Proofs.Ytiocgmioijcjhaa.cutsDual
