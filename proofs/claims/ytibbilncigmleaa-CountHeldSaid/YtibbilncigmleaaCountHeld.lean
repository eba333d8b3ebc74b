/- CountHeld: whatever the rule, the count and the list of bools are, the law answers true and leaves memory as it was. -/
import Derived.Test.YtibbilncigmleaaCountRun
namespace Go.Proofs.Ytibbilncigmleaa.countHeld
open Go.ChangeShapes Go.WideShapes Go.ChangeAt Go.RowKit Go.Proofs.Ytibbilncigmleaa Go.Proofs.Ytibbilncigmleaa.Open
set_option linter.unusedVariables false
def upsTo (zs : List Bool) : Nat → Nat
  | 0 => 0
  | k + 1 => upsTo zs k + if zs.getD k false then 1 else 0
theorem ups_le (zs : List Bool) (k : Nat) : upsTo zs k ≤ k := by
  induction k with
  | zero => simp [upsTo]
  | succ k ih => simp only [upsTo]; split <;> omega
theorem inv (up down most n : Int) (set : Bool) (zs : List Bool) (h : CountOk up down most n) (k : Nat) :
    (runTo up down most n set zs k).1 ≤ n + upsTo zs k * up ∧ 0 ≤ (upsTo zs k : Int) * up ∧
    ((runTo up down most n set zs k).2.1 = true → set = true ∨ (0 < upsTo zs k ∧ most ≤ n + upsTo zs k * up) ∨ (0 < k ∧ n = most)) ∧ (set = true → (runTo up down most n set zs k).2.1 = true) := by
  induction k with
  | zero => simp [runTo, upsTo]
  | succ k ih =>
    obtain ⟨h1, h2, h3, h4⟩ := ih
    have hok := runTo_ok up down most n set zs h k
    simp only [runTo, upsTo]
    generalize (runTo up down most n set zs k).1 = m at *
    generalize (runTo up down most n set zs k).2.1 = s at *
    generalize zs.getD k false = b
    obtain ⟨u0, u1, u2, u3, u4, u5, u6, u7⟩ := hok
    obtain ⟨-, -, -, -, -, -, v6, v7⟩ := h
    cases b
    · have hm : cntN up down most m false = max 0 (m - down) := rfl
      simp only [cntS, hm, Bool.false_eq_true, if_false, Nat.add_zero]
      generalize hU : (upsTo zs k : Int) * up = U at *
      refine ⟨by omega, h2, ?_, ?_⟩
      · intro h
        cases s
        · simp only [Bool.false_or, beq_iff_eq] at h
          by_cases h5 : upsTo zs k = 0
          · have h6 : U = 0 := by rw [← hU, h5]; simp
            exact .inr (.inr ⟨by omega, by omega⟩)
          · exact .inr (.inl ⟨by omega, by omega⟩)
        · rcases h3 rfl with h5 | h5 | h5
          · exact .inl h5
          · exact .inr (.inl h5)
          · exact .inr (.inr ⟨by omega, h5.2⟩)
      · intro h; rw [h4 h]; rfl
    · have hm : cntN up down most m true = min most (m + up) := rfl
      have e : ((upsTo zs k + 1 : Nat) : Int) * up = upsTo zs k * up + up := by rw [Int.natCast_add, Int.add_mul]; simp
      simp only [cntS, hm, if_true, e]
      generalize (upsTo zs k : Int) * up = U at *
      refine ⟨by omega, by omega, ?_, ?_⟩
      · intro h
        cases s
        · simp only [Bool.false_or, beq_iff_eq] at h
          exact .inr (.inl ⟨by omega, by omega⟩)
        · rcases h3 rfl with h5 | h5 | h5
          · exact .inl h5
          · exact .inr (.inl ⟨by omega, by omega⟩)
          · exact .inr (.inl ⟨by omega, by omega⟩)
      · intro h; rw [h4 h]; rfl
set_option maxHeartbeats 2000000 in
set_option maxRecDepth 100000 in
theorem law (up down most n : Int) (set : Bool) (a : Option Addr) (len cap : Nat) (zs : List Bool) (w : World) (hu : -9223372036854775808 ≤ up ∧ up ≤ 9223372036854775807) (hd : -9223372036854775808 ≤ down ∧ down ≤ 9223372036854775807) (hm : -9223372036854775808 ≤ most ∧ most ≤ 9223372036854775807)
    (hn : -9223372036854775808 ≤ n ∧ n ≤ 9223372036854775807) (hrow : IsRowB w a len cap zs) (hr : len ≤ cap ∧ cap * 1 ≤ 140737488351232) :
    Calls Try.prog 9 #[.agg #[.int .i64 up, .int .i64 down, .int .i64 most], .agg #[.int .i64 n, .bool set], .slice a len cap] w
      fun e w' => e = .returned (.bool true) ∧ Below w.heap.size w w' := by
  have k1 : cntN 1 0 1 0 true = 1 := by decide
  have k2 : cntS 1 0 1 0 false true = true := by decide
  have k3 : CountOk 1 0 1 0 := by unfold CountOk; omega
  have K1 := Lib.hid k1; have K2 := Lib.hid k2; have K3 := Lib.hid k3; have HR := Lib.hid hrow
  clear k1 k2 k3 hrow
  go_enter Try.func9, Try.ntmps9
  go_wp2_with fail
  refine (countStep_yes _ _ _ _ 1 _ true _ _ K3.out K1.out K2.out).mono ?_
  rintro e1 w1 ⟨rfl, hb1⟩
  have hz1 := hb1.size
  obtain ⟨hc1, hf1⟩ := bcell hb1
  simp at hz1
  have p0 : w1.cell? ⟨w.heap.size, 0, none⟩ = some (.int .i64 up) := by rw [hc1 _ _ (by simp; omega)]; go_simp
  have p1 : w1.cell? ⟨w.heap.size, 1, none⟩ = some (.int .i64 down) := by rw [hc1 _ _ (by simp; omega)]; go_simp
  have p2 : w1.cell? ⟨w.heap.size, 2, none⟩ = some (.int .i64 most) := by rw [hc1 _ _ (by simp; omega)]; go_simp
  have p3 : w1.cell? ⟨w.heap.size + 1, 0, none⟩ = some (.int .i64 n) := by rw [hc1 _ _ (by simp)]; go_simp
  have p4 : w1.cell? ⟨w.heap.size + 1, 1, none⟩ = some (.bool set) := by rw [hc1 _ _ (by simp)]; go_simp
  have B1 : Below w.heap.size w w1 := by
    repeat (first | exact Below.refl _ _ | refine Below.setCell ?_ (by first | (simp; done) | omega | (simp; omega)) _ | refine Below.trans ?_ (Below.mono hb1 (by first | (simp; done) | omega | (simp; omega))) | refine Below.alloc ?_ (by first | (simp; done) | omega | (simp; omega)) _)
  have n0 : w.heap.size < w1.heap.size := by omega
  have n1 : w.heap.size + 1 < w1.heap.size := by omega
  clear hb1 hc1 hf1
  go_wp2_with fail
  by_cases hok : CountOk up down most n
  · have HOK := Lib.hid hok
    have hinv := inv up down most n set zs hok len
    have hok2 := runTo_ok up down most n set zs hok len
    clear hok
    refine (countRun_yes _ _ _ _ _ _ _ _ zs _ HOK.out (HR.out.later (B1.alloc (by omega) _))).mono ?_
    rintro e2 w2 ⟨rfl, hb2⟩
    have hz2 := hb2.size
    simp at hz2
    have BA : Below w1.heap.size w1 w2 := ((Below.refl _ _).alloc (Nat.le_refl _) _).trans (hb2.mono (by simp))
    have B2 : Below w.heap.size w w2 := B1.trans (BA.mono (by omega))
    have q0 := cell_later BA p0
    have q1 := cell_later BA p1
    have q2 := cell_later BA p2
    have q3 := cell_later BA p3
    have q4 := cell_later BA p4
    have m0 : w.heap.size < w2.heap.size := by omega
    have m1 : w.heap.size + 1 < w2.heap.size := by omega
    clear hb2 BA p0 p1 p2 p3 p4 B1 hz1 hz2 n0 n1
    generalize (runTo up down most n set zs len).1 = xn at *
    generalize (runTo up down most n set zs len).2.1 = xs at *
    generalize (runTo up down most n set zs len).2.2 = xt at *
    have HI := Lib.hid hinv; have HO := Lib.hid hok2
    clear hinv hok2
    go_wp2
    go_loop [12, 49] (fun u i => ∃ k : Nat, k ≤ len ∧ i = .int .i64 k ∧ u = .int .i64 (upsTo zs k)) (fun _ i => len - (intOf i).toNat)
    case atStart => exact ⟨0, Nat.zero_le _, rfl, rfl⟩
    case round =>
      obtain ⟨k, hk, rfl, rfl⟩ := hrel
      by_cases hlt : k < len
      · obtain ⟨b, off, rfl, -, -, -, hcell⟩ := HR.out.pos (by omega)
        have hb0 := World.block_lt_of_cell? _ _ (hcell k (by omega))
        have hx := cell_later B2 (hcell k (by omega))
        have hb1 : b < w2.heap.size := by simp at hb0; omega
        have hu0 := ups_le zs k
        have hs : Hid (upsTo zs (k + 1) = upsTo zs k + if zs.getD k false then 1 else 0) := rfl
        clear hcell hb0
        generalize zs.getD k false = bd at hx hs
        generalize hy : upsTo zs (k + 1) = y at hs
        have HY := Lib.hid hy
        clear hy
        cases bd
        all_goals
          go_wp2
          go_round
          case rel =>
            refine ⟨k + 1, by omega, by go_num, ?_⟩
            have h1 := hs.out
            simp only [if_true, Bool.false_eq_true, if_false] at h1
            rw [HY.out, h1]
            go_num
          case measure => simp [intOf]; omega
      · obtain rfl : k = len := by omega
        have hu1 := ups_le zs k
        have hI := HI.out
        obtain ⟨o0, o1, o2, o3, o4, o5, o6, o7⟩ := HO.out
        have hU : (upsTo zs k : Int) * up ≤ 140737488351232 * 1000 := Int.mul_le_mul (by omega) o1 (by omega) (by omega)
        obtain ⟨i1, i2, i3, i4⟩ := hI
        have I3 := Lib.hid i3; have I4 := Lib.hid i4
        obtain ⟨-, -, -, -, -, -, v6, v7⟩ := HOK.out
        clear i1 i3 i4
        generalize upsTo zs k = u at *
        cases set
        · cases xs
          · clear I3 I4
            cases hq : (n == most)
            all_goals
              go_wp2
              all_goals
                go_ret
                refine ⟨ret_bool (by first | rfl | (simp; done) | (simp; omega)), ?_⟩
                repeat (first | exact B2 | refine Below.setCell ?_ (by first | (simp; done) | omega | (simp; omega)) _ | refine below_drewN ?_ _ | refine Below.alloc ?_ (by first | (simp; done) | omega | (simp; omega)) _)
          · have h3 : (0 < u ∧ most ≤ n + u * up) ∨ (u = 0 ∧ 0 < k ∧ n = most) := by
              rcases I3.out rfl with h | ⟨h, h'⟩ | ⟨h, h'⟩
              · simp at h
              · exact .inl ⟨h, h'⟩
              · by_cases c1 : 0 < u
                · exact .inl ⟨c1, by omega⟩
                · exact .inr ⟨by omega, h, h'⟩
            clear I3 I4
            rcases h3 with ⟨h3, h4⟩ | ⟨rfl, h4, rfl⟩
            all_goals
              go_wp2
              all_goals
                go_ret
                refine ⟨ret_bool (by first | rfl | (simp; done) | (simp; omega)), ?_⟩
                repeat (first | exact B2 | refine Below.setCell ?_ (by first | (simp; done) | omega | (simp; omega)) _ | refine below_drewN ?_ _ | refine Below.alloc ?_ (by first | (simp; done) | omega | (simp; omega)) _)
        · obtain rfl : xs = true := I4.out rfl
          clear I3 I4
          go_wp2
          all_goals
            go_ret
            refine ⟨ret_bool (by first | rfl | (simp; done) | (simp; omega)), ?_⟩
            repeat (first | exact B2 | refine Below.setCell ?_ (by first | (simp; done) | omega | (simp; omega)) _ | refine below_drewN ?_ _ | refine Below.alloc ?_ (by first | (simp; done) | omega | (simp; omega)) _)
  · have HOK := Lib.hid hok
    clear hok
    refine (countRun_no _ _ _ _ _ _ _ _ _ HOK.out).mono ?_
    rintro e2 w2 ⟨rfl, hb2⟩
    have hz2 := hb2.size
    simp at hz2
    have BA : Below w1.heap.size w1 w2 := ((Below.refl _ _).alloc (Nat.le_refl _) _).trans (hb2.mono (by simp))
    have B2 : Below w.heap.size w w2 := B1.trans (BA.mono (by omega))
    clear hb2 BA p0 p1 p2 p3 p4 B1
    go_wp2
    go_ret
    refine ⟨ret_bool (by first | rfl | (simp; done) | (simp; omega)), ?_⟩
    repeat (first | exact B2 | refine Below.setCell ?_ (by first | (simp; done) | omega | (simp; omega)) _ | refine below_drewN ?_ _ | refine Below.alloc ?_ (by first | (simp; done) | omega | (simp; omega)) _)
set_option maxRecDepth 100000 in
theorem lifted (os : Os) (started : os.Started) (H : Type) (enc : TypeId × Value → H) :
    ReturnsInHanded {} Try.checked os 9 .any (Rows.countHeldSpec.pre6 enc Try.prog Try.f9 Rows.countHeldRow.domain false) (Rows.countHeldSpec.post enc Try.prog Try.f9 false true false false) := by
  refine returnsInHanded_of_change_sized (C := Try.checked) own started (by kernel_rfl) Try.func9
    (ChangeSpec.witness6 (enc := enc) (C := Try.checked) false ⟨#[], #[.agg #[.int .i64 0, .int .i64 0, .int .i64 0], .agg #[.int .i64 0, .bool false], .slice none 0 0], []⟩ 8 (by kernel_rfl) (by kernel_rfl) (by kernel_rfl) (by kernel_rfl)) ?_
  intro W base args ds gs before hval0 hW hcnd hsz0 _
  have hsz : (DataW.weightsEach Try.prog (Try.f9.params.toList ++ Rows.countHeldSpec.plain.varTypes Try.prog) (ds ++ gs)).all (· ≤ reachBytes) = true := hsz0
  have hval : ∀ (j : Nat) t v, Try.f9.params[j]? = some t → args[j]? = some v → Value.okWide Try.prog W .any base t v := hval0
  have hW' := hW
  obtain ⟨p, q, hA0, hV, rfl, hfz, hnd⟩ := hW
  have hA : DataW.TrodAll enc Try.prog W 0 (fun _ => true) true Try.f9.params.toList args.toList ds p := hA0
  rw [Try.params9] at hA hval hsz
  obtain ⟨v0, vs0, d0, ds0, p0, q0, hargs, rfl, rfl, h0, r0⟩ := trodAll_cons hA
  obtain ⟨v1, vs1, d1, ds1, p1, q1, rfl, rfl, rfl, h1, r1⟩ := trodAll_cons r0
  obtain ⟨v2, vs2, d2, ds2, p2, q2, rfl, rfl, rfl, h2, r2⟩ := trodAll_cons r1
  obtain ⟨rfl, rfl, rfl⟩ := trodAll_nil r2
  obtain rfl : args = #[v0, v1, v2] := by cases args; simp_all
  obtain ⟨rfl, rfl⟩ := trodVars_none hV
  have k0 := h0
  have lt0 : ∀ x ∈ p0, x.block < W.heap.size := by obtain ⟨m, hm⟩ := k0; exact DataW.trod_lt m _ _ _ hm
  have k1 := h1
  have lt1 : ∀ x ∈ p1, x.block < W.heap.size := by obtain ⟨m, hm⟩ := k1; exact DataW.trod_lt m _ _ _ hm
  have k2 := h2
  have lt2 : ∀ x ∈ p2, x.block < W.heap.size := by obtain ⟨m, hm⟩ := k2; exact DataW.trod_lt m _ _ _ hm
  obtain ⟨cs0, rfl, lf0_0⟩ := open_flat 12 [3, 3, 3] (by kernel_rfl) (by kernel_rfl) (by kernel_rfl) (hval 0 41 v0 rfl rfl) h0
  obtain ⟨c0_0, r0_0, rfl, y0_0, lf0_1⟩ := leafs_cons lf0_0
  obtain ⟨a0_0, rfl, w0_0⟩ := leaf_int Try.underlying3 y0_0
  obtain ⟨c0_1, r0_1, rfl, y0_1, lf0_2⟩ := leafs_cons lf0_1
  obtain ⟨a0_1, rfl, w0_1⟩ := leaf_int Try.underlying3 y0_1
  obtain ⟨c0_2, r0_2, rfl, y0_2, lf0_3⟩ := leafs_cons lf0_2
  obtain ⟨a0_2, rfl, w0_2⟩ := leaf_int Try.underlying3 y0_2
  obtain rfl := leafs_nil lf0_3
  obtain ⟨cs1, rfl, lf1_0⟩ := open_flat 12 [3, 4] (by kernel_rfl) (by kernel_rfl) (by kernel_rfl) (hval 1 57 v1 rfl rfl) h1
  obtain ⟨c1_0, r1_0, rfl, y1_0, lf1_1⟩ := leafs_cons lf1_0
  obtain ⟨a1_0, rfl, w1_0⟩ := leaf_int Try.underlying3 y1_0
  obtain ⟨c1_1, r1_1, rfl, y1_1, lf1_2⟩ := leafs_cons lf1_1
  obtain ⟨a1_1, rfl⟩ := leaf_bool Try.underlying4 y1_1
  obtain rfl := leafs_nil lf1_2
  obtain ⟨sa2, sl2, sc2, rfl⟩ := okWide_slice Try.underlying60 (hval 2 60 v2 rfl rfl)
  obtain ⟨a2, len2, cap2, z2, e2, w2⟩ := leaf_bools (Try.underlying60) (Try.underlying4) (by kernel_rfl) (by obtain ⟨fuel, hf⟩ := h2; exact ⟨fuel, _, by simpa [Value.cells] using hf⟩)
  simp only [Value.slice.injEq] at e2
  obtain ⟨rfl, rfl, rfl⟩ := e2
  have R2 := cap_le (B := 1) Try.underlying60 k2 (fun elems spare hd => by have := sized_slice hsz (j := 2) (t := 60) (e := 4) (elems := elems) (spare := spare) rfl (by rw [← hd]; rfl) Try.underlying60; exact this)
  clear hA0 hval0
  refine (law a0_0 a0_1 a0_2 a1_0 a1_1 sa2 sl2 sc2 z2 W (bounds_i64 w0_0) (bounds_i64 w0_1) (bounds_i64 w0_2) (bounds_i64 w1_0) w2 R2).mono fun e W' ⟨he, bel⟩ => ?_
  subst he
  exact ⟨_, rfl, _, _, _, [], _, [], hW', trodAll_mk1 (shut_bool Try.underlying4 _), (trodAll_cons_mk (Below.trod laidOut (by kernel_rfl) (of_decide_eq_true (by kernel_rfl)) k0 bel lt0) (trodAll_cons_mk (Below.trod laidOut (by kernel_rfl) (of_decide_eq_true (by kernel_rfl)) k1 bel lt1) (trodAll_cons_mk (Below.trod laidOut (by kernel_rfl) (of_decide_eq_true (by kernel_rfl)) k2 bel lt2) trodAll_mk0))), rfl, bel.frame _, fun h => by cases h⟩
theorem over : Rows.countHeldRow.holds Try.pinned (OpenSpec.ofChange Rows.countHeldSpec) :=
  OpenClaim.holds_of_wide 9 Try.f9 rfl rfl rfl rfl rfl rfl rfl ⟨rfl, rfl, rfl, rfl, rfl⟩ rfl rfl rfl rfl rfl (by kernel_rfl) Try.func9 (by kernel_rfl)
    (of_decide_eq_true (by kernel_rfl)) (by unfold Func.isWrapper; first | (rw [if_pos (by decide +kernel)]; kernel_rfl) | (rw [if_neg (by decide +kernel)]; exact ⟨rfl, rfl⟩))
    (fun os started H enc _ => lifted os started H enc)
theorem proved : Rows.CountHeldSaid := over
#print axioms proved

end Go.Proofs.Ytibbilncigmleaa.countHeld
