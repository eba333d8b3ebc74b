/- FiltTrip: whatever the switch, the numbers and the bounds are, the law answers true and leaves memory as it was. -/
import Derived.Test.YtfgpcjfkkonkhaaFilt
import Derived.Lib.Hide
import Derived.Deep.DeepCutAuto
namespace Go.Proofs.Ytfgpcjfkkonkhaa.filtTrip
open Go.ChangeShapes Go.WideShapes Go.ChangeAt Go.RowKit Go.Proofs.Ytfgpcjfkkonkhaa Go.Proofs.Ytfgpcjfkkonkhaa.Open
set_option linter.unusedVariables false
theorem trip_facts (on : Bool) (x high low top down : Int) (ht : top = max high low) (hd : down = min high low) :
    (x < down → tripB on x high low = false) ∧ (top < x → tripB on x high low = true) ∧ (down ≤ x → x ≤ top → tripB on x high low = on) := by
  unfold tripB; cases on <;> simp <;> omega
set_option maxHeartbeats 1000000 in
set_option maxRecDepth 100000 in
theorem law (on : Bool) (a : Option Addr) (len cap : Nat) (zs : List Int) (high low : Int) (w : World) (hrow : IsRow .i32 w a len cap zs) (hh : -2147483648 ≤ high ∧ high ≤ 2147483647) (hl : -2147483648 ≤ low ∧ low ≤ 2147483647) :
    Calls Try.prog 5 #[.bool on, .slice a len cap, .int .i32 high, .int .i32 low] w fun e w' => e = .returned (.bool true) ∧ Below w.heap.size w w' := by
  have k1 : tripB false 9 8 4 = true := by decide
  have k2 : tripB false 6 8 4 = false := by decide
  have k3 : tripB true 6 8 4 = true := by decide
  obtain ⟨top, ht⟩ : ∃ t, t = max high low := ⟨_, rfl⟩
  obtain ⟨down, hd⟩ : ∃ t, t = min high low := ⟨_, rfl⟩
  have htd : down ≤ top := by omega
  have HT := Lib.hid ht; have HD := Lib.hid hd; have HR := Lib.hid hrow; have hlen := hrow.maxLen
  clear ht hd hrow
  go_enter Try.func5, Try.ntmps5
  go_upto_region 3 with (go_at_call 18; refine (trip_any _ _ _ _ _).mono ?_; rintro e w' ⟨rfl, rfl⟩)
  go_cut [9, 10] (fun t d wx => t = .int .i32 top ∧ d = .int .i32 down ∧ w = wx)
  case first =>
    go_wp2
    all_goals (go_meet; have h1 := HT.out; have h2 := HD.out; exact ⟨by go_num, by go_num, rfl⟩)
  case rest =>
    obtain ⟨rfl, rfl, rfl⟩ := hcut
    go_wp2
    go_loop [0, 31] (fun o i => ∃ (b : Bool) (k : Nat), k ≤ len ∧ o = .bool b ∧ i = .int .i64 k) (fun _ i => len - (intOf i).toNat)
    case atStart => exact ⟨on, 0, Nat.zero_le _, rfl, rfl⟩
    case round =>
      obtain ⟨o, k, hk, rfl, rfl⟩ := hrel
      by_cases hlt : k < len
      · obtain ⟨b, off, rfl, -, -, -, hcell, hwf⟩ := HR.out.pos (by omega)
        have hc := hcell k (by omega)
        have hv := bounds_i32 (hwf k)
        clear hcell hwf
        generalize zs.getD k 0 = v at hc hv
        have hf := trip_facts o v high low top down HT.out HD.out
        rcases (by omega : v < down ∨ top < v ∨ (down ≤ v ∧ v ≤ top)) with c | c | ⟨c, c'⟩
        · have h1 := hf.1 c
          have h2 : v ≤ top := by omega
          clear hf
          cases o
          all_goals
            go_wp2_with (go_at_call 18; refine (trip_any _ _ _ _ _).mono ?_; rintro e w' ⟨rfl, rfl⟩)
            go_round
            case rel => exact ⟨_, k + 1, by omega, rfl, by go_num⟩
            case measure => simp [intOf]; omega
        · have h1 := hf.2.1 c
          have h2 : down ≤ v := by omega
          clear hf
          cases o
          all_goals
            go_wp2_with (go_at_call 18; refine (trip_any _ _ _ _ _).mono ?_; rintro e w' ⟨rfl, rfl⟩)
            go_round
            case rel => exact ⟨_, k + 1, by omega, rfl, by go_num⟩
            case measure => simp [intOf]; omega
        · have h1 := hf.2.2 c c'
          clear hf
          cases o
          all_goals
            go_wp2_with (go_at_call 18; refine (trip_any _ _ _ _ _).mono ?_; rintro e w' ⟨rfl, rfl⟩)
            go_round
            case rel => exact ⟨_, k + 1, by omega, rfl, by go_num⟩
            case measure => simp [intOf]; omega
      · go_wp2
        go_ret
        exact ⟨rfl, Below.refl _ _⟩
set_option maxRecDepth 100000 in
theorem lifted (os : Os) (started : os.Started) (H : Type) (enc : TypeId × Value → H) :
    ReturnsInHanded {} Try.checked os 5 .any (Rows.filtTripSpec.pre6 enc Try.prog Try.f5 Rows.filtTripRow.domain false) (Rows.filtTripSpec.post enc Try.prog Try.f5 false true false false) := by
  refine returnsInHanded_of_change (C := Try.checked) own started (by kernel_rfl) Try.func5
    (ChangeSpec.witness6 (enc := enc) (C := Try.checked) false ⟨#[], #[.bool false, .slice none 0 0, .int .i32 0, .int .i32 0], []⟩ 8 (by kernel_rfl) (by kernel_rfl) (by kernel_rfl) (by kernel_rfl)) ?_
  intro W base args ds gs before hval0 hW hcnd _
  have hval : ∀ (j : Nat) t v, Try.f5.params[j]? = some t → args[j]? = some v → Value.okWide Try.prog W .any base t v := hval0
  have hW' := hW
  obtain ⟨p, q, hA0, hV, rfl, hfz, hnd⟩ := hW
  have hA : DataW.TrodAll enc Try.prog W 0 (fun _ => true) true Try.f5.params.toList args.toList ds p := hA0
  rw [Try.params5] at hA hval
  obtain ⟨v0, vs0, d0, ds0, p0, q0, hargs, rfl, rfl, h0, r0⟩ := trodAll_cons hA
  obtain ⟨v1, vs1, d1, ds1, p1, q1, rfl, rfl, rfl, h1, r1⟩ := trodAll_cons r0
  obtain ⟨v2, vs2, d2, ds2, p2, q2, rfl, rfl, rfl, h2, r2⟩ := trodAll_cons r1
  obtain ⟨v3, vs3, d3, ds3, p3, q3, rfl, rfl, rfl, h3, r3⟩ := trodAll_cons r2
  obtain ⟨rfl, rfl, rfl⟩ := trodAll_nil r3
  obtain rfl : args = #[v0, v1, v2, v3] := by cases args; simp_all
  obtain ⟨rfl, rfl⟩ := trodVars_none hV
  have k0 := h0
  have lt0 : ∀ x ∈ p0, x.block < W.heap.size := by obtain ⟨m, hm⟩ := k0; exact DataW.trod_lt m _ _ _ hm
  have k1 := h1
  have lt1 : ∀ x ∈ p1, x.block < W.heap.size := by obtain ⟨m, hm⟩ := k1; exact DataW.trod_lt m _ _ _ hm
  have k2 := h2
  have lt2 : ∀ x ∈ p2, x.block < W.heap.size := by obtain ⟨m, hm⟩ := k2; exact DataW.trod_lt m _ _ _ hm
  have k3 := h3
  have lt3 : ∀ x ∈ p3, x.block < W.heap.size := by obtain ⟨m, hm⟩ := k3; exact DataW.trod_lt m _ _ _ hm
  obtain ⟨a0, rfl, rfl, rfl⟩ := open_bool Try.underlying4 (hval 0 4 v0 rfl rfl) h0
  obtain ⟨sa1, sl1, sc1, rfl⟩ := okWide_slice Try.underlying27 (hval 1 27 v1 rfl rfl)
  obtain ⟨a1, len1, cap1, z1, e1, w1⟩ := leaf_ints (Try.underlying27) (Try.underlying21) (by kernel_rfl) (by obtain ⟨fuel, hf⟩ := h1; exact ⟨fuel, _, by simpa [Value.cells] using hf⟩)
  simp only [Value.slice.injEq] at e1
  obtain ⟨rfl, rfl, rfl⟩ := e1
  obtain ⟨a2, rfl, rfl, rfl, w2⟩ := open_int Try.underlying21 (hval 2 21 v2 rfl rfl) h2
  obtain ⟨a3, rfl, rfl, rfl, w3⟩ := open_int Try.underlying21 (hval 3 21 v3 rfl rfl) h3
  clear hA0 hval0
  refine (law a0 sa1 sl1 sc1 z1 a2 a3 W w1 (bounds_i32 w2) (bounds_i32 w3)).mono fun e W' ⟨he, bel⟩ => ?_
  subst he
  exact ⟨_, rfl, _, _, _, [], _, [], hW', trodAll_mk1 (shut_bool Try.underlying4 _), (trodAll_cons_mk (Below.trod laidOut (by kernel_rfl) (of_decide_eq_true (by kernel_rfl)) k0 bel lt0) (trodAll_cons_mk (Below.trod laidOut (by kernel_rfl) (of_decide_eq_true (by kernel_rfl)) k1 bel lt1) (trodAll_cons_mk (Below.trod laidOut (by kernel_rfl) (of_decide_eq_true (by kernel_rfl)) k2 bel lt2) (trodAll_cons_mk (Below.trod laidOut (by kernel_rfl) (of_decide_eq_true (by kernel_rfl)) k3 bel lt3) trodAll_mk0)))), rfl, bel.frame _, fun h => by cases h⟩
theorem over : Rows.filtTripRow.holds Try.pinned (OpenSpec.ofChange Rows.filtTripSpec) :=
  OpenClaim.holds_of_wide 5 Try.f5 rfl rfl rfl rfl rfl rfl rfl ⟨rfl, rfl, rfl, rfl, rfl⟩ rfl rfl rfl rfl rfl (by kernel_rfl) Try.func5 (by kernel_rfl)
    (of_decide_eq_true (by kernel_rfl)) (by unfold Func.isWrapper; first | (rw [if_pos (by decide +kernel)]; kernel_rfl) | (rw [if_neg (by decide +kernel)]; exact ⟨rfl, rfl⟩))
    (fun os started H enc _ => lifted os started H enc)
theorem proved : Rows.FiltTripSaid := over
#print axioms proved

end Go.Proofs.Ytfgpcjfkkonkhaa.filtTrip
