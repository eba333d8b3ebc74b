/- VoteWithin: whatever the numbers are, the law answers true and leaves memory as it was. -/
import Derived.Test.YtijoalaijkobpaaMid64
import Derived.Test.YtijoalaijkobpaaSat
namespace Go.Proofs.Ytijoalaijkobpaa.voteWithin
open Go.ChangeShapes Go.WideShapes Go.ChangeAt Go.RowKit Go.Proofs.Ytijoalaijkobpaa Go.Proofs.Ytijoalaijkobpaa.Open
set_option linter.unusedVariables false
theorem ints_new {K : IntKind} {E : TypeId} (w : World) (xs : List Int) (cs : Array Value) (hc : cs.toList = xs.map (.int K)) (h : 0 < xs.length) (hl : xs.length ≤ 64) : IntsAt K (w.alloc (.cells cs E)) (.slice (some ⟨w.heap.size, 0, none⟩) xs.length xs.length) xs :=
  .inr ⟨h, w.heap.size, 0, xs.length, rfl, Nat.le_refl _, by omega, fun i hi => by
    rw [Nat.zero_add, cell_of_row _ _ i cs E (0, 0) (heap_alloc_new w _)]
    have : cs[i]? = (xs.map (Value.int K))[i]? := by rw [← hc]; simp
    rw [this, List.getElem?_map, List.getD_eq_getElem?_getD, List.getElem?_eq_getElem hi]; rfl⟩
theorem bools_new {E : TypeId} (w : World) (b : Nat) (hb : b = w.heap.size) (xs : List Bool) (cs : Array Value) (hc : cs.toList = xs.map .bool) (h : 0 < xs.length) (hl : xs.length ≤ 64) : BoolsAt (w.alloc (.cells cs E)) (.slice (some ⟨b, 0, none⟩) xs.length xs.length) xs := by
  subst hb
  exact .inr ⟨h, w.heap.size, 0, xs.length, rfl, Nat.le_refl _, by omega, fun i hi => by
    rw [Nat.zero_add, cell_of_row _ _ i cs E (0, 0) (heap_alloc_new w _)]
    have : cs[i]? = (xs.map Value.bool)[i]? := by rw [← hc]; simp
    rw [this, List.getElem?_map, List.getD_eq_getElem?_getD, List.getElem?_eq_getElem hi]; rfl⟩
theorem three_mid : voteE [5, 900, 6] [true, true, true] = (6, 0) := by
  have h : ([5, 6, 900] : List Int) = sort32 [5, 900, 6] := List.Perm.eq_of_pairwise (by intro a b _ _ h1 h2; omega) (by decide) (sort32_sorted _) ((by decide : ([5, 6, 900] : List Int).Perm [5, 900, 6]).trans (sort32_perm _).symm)
  have h2 : hearK [5, 900, 6] [true, true, true] ([5, 900, 6] : List Int).length = [5, 900, 6] := by decide
  unfold voteE
  rw [if_pos (by decide), h2, midE_in (by decide) (by decide)]
  unfold midI
  rw [← h]
  rfl
theorem voteE_err {xs : List Int} {oks : List Bool} (h : (voteE xs oks).2 ≠ 0) : (voteE xs oks).1 = 0 := by
  unfold voteE at h ⊢
  split
  · rename_i h2
    rw [if_pos h2] at h
    by_cases h3 : 0 < (hearK xs oks xs.length).length ∧ (hearK xs oks xs.length).length ≤ 64
    · rw [midE_in h3.1 h3.2] at h; exact absurd rfl h
    · exact (midE_out h3).1
  · rfl
theorem voteE_ok {xs : List Int} {oks : List Bool} (h : (voteE xs oks).2 = 0) : xs.length = oks.length ∧ xs.length ≤ 64 ∧ 0 < (hearK xs oks xs.length).length ∧ (voteE xs oks).1 = midI (hearK xs oks xs.length) := by
  unfold voteE at h ⊢
  by_cases h2 : hearE xs oks = 0
  · rw [if_pos h2] at h ⊢
    have h4 : xs.length = oks.length ∧ xs.length ≤ 64 := by
      unfold hearE at h2
      by_cases e : 64 < xs.length
      · rw [if_pos e] at h2; omega
      · rw [if_neg e] at h2
        by_cases e2 : xs.length = oks.length
        · exact ⟨e2, by omega⟩
        · rw [if_neg e2] at h2; omega
    by_cases h3 : 0 < (hearK xs oks xs.length).length ∧ (hearK xs oks xs.length).length ≤ 64
    · exact ⟨h4.1, h4.2, h3.1, by rw [midE_in h3.1 h3.2]⟩
    · exfalso; rcases (midE_out h3).2 with e | e <;> rw [e] at h <;> omega
  · rw [if_neg h2] at h; exact absurd h h2
abbrev inR (lo hi : Int) : Int → Bool := fun x => decide (lo ≤ x ∧ x ≤ hi)
theorem within {hs : List Int} {lo hi m : Int} (h0 : 0 < hs.length) (hm : midI hs = m) (h : hs.length < 2 * hs.countP (inR lo hi)) : lo ≤ m ∧ m ≤ hi := by
  constructor
  · refine Int.not_lt.1 fun e => ?_
    have := count_high h0 (inR lo hi) (by intro x hx; rw [hm] at hx; simp; omega)
    omega
  · refine Int.not_lt.1 fun e => ?_
    have := count_low h0 (inR lo hi) (by intro x hx; rw [hm] at hx; simp; omega)
    omega
def WRel (w0 : World) (lo hi : Int) (xs : List Int) (oks : List Bool) (si sa sk : Value) (w : World) : Prop := ∃ k : Nat, k ≤ xs.length ∧ sk = .int .i64 k ∧ si = .int .i64 ((hearK xs oks k).countP (inR lo hi) : Nat) ∧ sa = .int .i64 ((hearK xs oks k).length : Nat) ∧ w0 = w
set_option maxHeartbeats 8000000 in
set_option maxRecDepth 100000 in
theorem way (xs : List Int) (oks : List Bool) (a b : Int) (v u : Value) (w : World) (hv : IntsAt .i32 w v xs) (hu : BoolsAt w u oks) (hx : xs.length ≤ 9223372036854775807) (hy : oks.length ≤ 9223372036854775807) :
    Calls Try.prog 7 #[v, u, .int .i32 a, .int .i32 b] w fun e w' => e = .returned (.bool true) ∧ Below w.heap.size w w' := by
  obtain ⟨av, cv, rfl⟩ := hv.len
  obtain ⟨au, cu, rfl⟩ := hu.len
  have HV := Lib.hid hv; have HU := Lib.hid hu
  have F0 := Lib.hid (ints_new (E := 21) (K := .i32) w [5, 900, 6] #[.int .i32 5, .int .i32 900, .int .i32 6] rfl (by decide) (by decide))
  have G0 := Lib.hid (bools_new (E := 4) (w.alloc (.cells #[.int .i32 5, .int .i32 900, .int .i32 6] 21)) (w.heap.size + 1) (by simp) [true, true, true] #[.bool true, .bool true, .bool true] rfl (by decide) (by decide))
  clear hv hu
  go_enter Try.func7, Try.ntmps7
  go_wp2_with fail
  refine (vmid_is [5, 900, 6] [true, true, true] _ _ _ (F0.out.later (((Below.refl _ _).alloc (Nat.le_refl _) _)) (Nat.le_refl _)) G0.out (by decide) (by decide)).mono ?_
  rw [three_mid]
  rintro e w1 ⟨rfl, hb⟩
  have B1 : Hid (Below w.heap.size w w1) := by repeat (first | with_reducible exact Below.refl _ _ | ((with_reducible refine Below.setCell ?_ ?_ _); rotate_left; (· first | (simp; done) | omega | (simp; omega))) | with_reducible refine below_drewN ?_ _ | with_reducible refine Below.drew ?_ | ((with_reducible refine Below.trans ?_ (Below.mono hb ?_)); rotate_left; (· first | (simp; done) | omega | (simp; omega))) | ((with_reducible refine Below.alloc ?_ ?_ _); rotate_left; (· first | (simp; done) | omega | (simp; omega))) | exact Below.refl _ _ | refine Below.setCell ?_ (by first | (simp; done) | omega | (simp; omega)) _ | refine below_drewN ?_ _ | refine Below.drew ?_ | refine Below.trans ?_ (Below.mono hb (by first | (simp; done) | omega | (simp; omega))) | refine Below.alloc ?_ (by first | (simp; done) | omega | (simp; omega)) _)
  clear hb F0 G0
  go_wp2_with fail
  by_cases hok : (voteE xs oks).2 = 0
  · obtain ⟨hlo, hl64, hn0, hmv⟩ := voteE_ok hok
    obtain ⟨m, hm⟩ : ∃ m, (voteE xs oks).1 = m := ⟨_, rfl⟩
    rw [hm] at hmv
    have hve : voteE xs oks = (m, 0) := by rw [← hm, ← hok]
    have HVE := Lib.hid hve; have HM := Lib.hid hmv.symm; have HLO := Lib.hid hlo; have HN0 := Lib.hid hn0
    clear hok hm hmv hve hlo hn0
    refine (vmid_is xs oks _ _ _ (HV.out.later B1.out (Nat.le_refl _)) (HU.out.later B1.out (Nat.le_refl _)) hx hy).mono ?_
    rw [HVE.out]
    rintro e w2 ⟨rfl, hb⟩
    have B2 := Lib.hid (B1.out.trans (hb.mono B1.out.size))
    clear hb B1
    go_upto_region 7 with (fail)
    go_cut [13, 14] (fun s13 s14 wx => ∃ lo hi : Int, s13 = .int .i32 lo ∧ s14 = .int .i32 hi ∧ wx = w2)
    case first =>
      go_wp2
      go_meet
      exact ⟨_, _, rfl, rfl, rfl⟩
    case rest =>
    obtain ⟨lo, hi, rfl, rfl, rfl⟩ := hcut
    go_wp2_with fail
    go_loopw [15, 16, 49] (fun si sa sk wr => WRel wc lo hi xs oks si sa sk wr) (fun _ _ sk _ => xs.length - (intOf sk).toNat)
    case atStart => exact ⟨0, Nat.zero_le _, rfl, by simp [hearK], by simp [hearK], rfl⟩
    case round =>
      obtain ⟨j, hj, rfl, rfl, rfl, rfl⟩ := hrel
      have hca := hear_len xs oks j
      have hcb := List.countP_le_length (p := inR lo hi) (l := hearK xs oks j)
      by_cases hlt : j < xs.length
      · rcases (HV.out.later B2.out (Nat.le_refl _)) with ⟨h0, -⟩ | ⟨-, b1, off, cp, hae, hl1, hm1, hc⟩
        · rw [h0] at hlt; simp at hlt
        rcases (HU.out.later B2.out (Nat.le_refl _)) with ⟨h0, -⟩ | ⟨-, b2, off2, cp2, hae2, hl2, hm2, hc2⟩
        · have := HLO.out; rw [h0, List.length_nil] at this; omega
        simp only [Value.slice.injEq, true_and] at hae hae2
        obtain ⟨rfl, rfl⟩ := hae
        obtain ⟨rfl, rfl⟩ := hae2
        have hlt2 : j < oks.length := by have := HLO.out; omega
        have x1 := hc j hlt
        have x2 := hc2 j hlt2
        obtain ⟨x, hxe⟩ : ∃ x, xs.getD j 0 = x := ⟨_, rfl⟩
        obtain ⟨y, hye⟩ : ∃ y, oks.getD j false = y := ⟨_, rfl⟩
        rw [hxe] at x1
        rw [hye] at x2
        have hst : hearK xs oks (j + 1) = if y then hearK xs oks j ++ [x] else hearK xs oks j := by rw [hearK, hxe, hye]
        have d1 : (j : Int) < (xs.length : Int) := by omega
        have d2 : (j : Int) < (oks.length : Int) := by omega
        obtain ⟨H, hH⟩ : ∃ H, hearK xs oks j = H := ⟨_, rfl⟩
        rw [hH] at hst hca hcb ⊢
        have HST := Lib.hid hst
        obtain ⟨cb, hcbe⟩ : ∃ n, H.countP (inR lo hi) = n := ⟨_, rfl⟩
        obtain ⟨ca, hcae⟩ : ∃ n, H.length = n := ⟨_, rfl⟩
        rw [hcbe] at hcb ⊢
        rw [hcae] at hca hcb ⊢
        have HCB := Lib.hid hcbe; have HCA := Lib.hid hcae
        clear hc hc2 hxe hye hst hH hcbe hcae
        cases y with
        | false =>
          have e1 : hearK xs oks (j + 1) = H := by rw [HST.out]; rfl
          have E1 := Lib.hid e1
          clear e1
          go_wp2
          go_roundw
          case rel => exact ⟨j + 1, by omega, by go_num, by rw [E1.out, HCB.out], by rw [E1.out, HCA.out], rfl⟩
          case measure => simp [intOf]; omega
        | true =>
          have e1 : hearK xs oks (j + 1) = H ++ [x] := by rw [HST.out]; rfl
          have E1 := Lib.hid e1
          have e2 : (hearK xs oks (j + 1)).length = ca + 1 := by rw [e1, List.length_append, HCA.out]; rfl
          have E2 := Lib.hid e2
          clear e1 e2
          by_cases hr : lo ≤ x ∧ x ≤ hi
          · have e3 : (hearK xs oks (j + 1)).countP (inR lo hi) = cb + 1 := by
              rw [E1.out, List.countP_append, HCB.out, List.countP_singleton, if_pos (decide_eq_true hr)]
            have E3 := Lib.hid e3
            obtain ⟨r1, r2⟩ := hr
            clear e3
            go_wp2
            go_roundw
            case rel => exact ⟨j + 1, by omega, by go_num, by rw [E3.out]; go_num, by rw [E2.out]; go_num, rfl⟩
            case measure => simp [intOf]; omega
          · have e3 : (hearK xs oks (j + 1)).countP (inR lo hi) = cb := by
              rw [E1.out, List.countP_append, HCB.out, List.countP_singleton, if_neg (by simpa using hr)]; rfl
            have E3 := Lib.hid e3
            clear e3
            by_cases r1 : lo ≤ x
            · have r2 : ¬ x ≤ hi := fun h => hr ⟨r1, h⟩
              clear hr
              go_wp2
              go_roundw
              case rel => exact ⟨j + 1, by omega, by go_num, by rw [E3.out], by rw [E2.out]; go_num, rfl⟩
              case measure => simp [intOf]; omega
            · clear hr
              go_wp2
              go_roundw
              case rel => exact ⟨j + 1, by omega, by go_num, by rw [E3.out], by rw [E2.out]; go_num, rfl⟩
              case measure => simp [intOf]; omega
      · obtain rfl : j = xs.length := by omega
        have hw := within (lo := lo) (hi := hi) HN0.out HM.out
        obtain ⟨H, hH⟩ : ∃ H, hearK xs oks xs.length = H := ⟨_, rfl⟩
        rw [hH] at hca hcb hw ⊢
        obtain ⟨cb, hcbe⟩ : ∃ n, H.countP (inR lo hi) = n := ⟨_, rfl⟩
        obtain ⟨ca, hcae⟩ : ∃ n, H.length = n := ⟨_, rfl⟩
        rw [hcbe] at hcb hw ⊢
        rw [hcae] at hca hcb hw ⊢
        clear hH hcbe hcae
        by_cases h2 : ca < 2 * cb
        · obtain ⟨w1, w2⟩ := hw h2
          have h3 : ¬ 2 * (cb : Int) ≤ (ca : Int) := by omega
          clear hw
          go_wp2
          go_ret
          exact ⟨rfl, B2.out⟩
        · have h3 : 2 * (cb : Int) ≤ (ca : Int) := by omega
          clear hw
          go_wp2
          go_ret
          exact ⟨rfl, B2.out⟩
  · obtain ⟨m2, hm2⟩ : ∃ m, (voteE xs oks).2 = m := ⟨_, rfl⟩
    have hve : voteE xs oks = (0, m2) := by rw [← hm2, ← voteE_err hok]
    rw [hm2] at hok
    have HVE := Lib.hid hve
    have hne : (m2 != 0) = true := by simpa using hok
    clear hok hm2 hve
    refine (vmid_is xs oks _ _ _ (HV.out.later B1.out (Nat.le_refl _)) (HU.out.later B1.out (Nat.le_refl _)) hx hy).mono ?_
    rw [HVE.out]
    rintro e w2 ⟨rfl, hb⟩
    have B2 := Lib.hid (B1.out.trans (hb.mono B1.out.size))
    clear hb B1
    go_wp2
    go_ret
    exact ⟨rfl, B2.out⟩
theorem law (a : Option Addr) (len cap : Nat) (zs : List Int) (c : Option Addr) (len2 cap2 : Nat) (ys : List Bool) (x y : Int) (w : World) (h1 : IsRow .i32 w a len cap zs) (h2 : IsRowB w c len2 cap2 ys) (hx : -2147483648 ≤ x ∧ x ≤ 2147483647) (hy : -2147483648 ≤ y ∧ y ≤ 2147483647) :
    Calls Try.prog 7 #[.slice a len cap, .slice c len2 cap2, .int .i32 x, .int .i32 y] w fun e w' => e = .returned (.bool true) ∧ Below w.heap.size w w' := by
  obtain ⟨h5, h6⟩ := isRow_ints h1
  obtain ⟨h7, h8⟩ := isRowB_bools h2
  have := h1.maxLen
  have := h2.maxLen
  exact way (zs.take len) (ys.take len2) x y _ _ w h5 h7 (by omega) (by omega)
set_option maxRecDepth 100000 in
theorem lifted (os : Os) (started : os.Started) (H : Type) (enc : TypeId × Value → H) :
    ReturnsInHanded {} Try.checked os 7 .any (Rows.voteWithinSpec.pre6 enc Try.prog Try.f7 Rows.voteWithinRow.domain false) (Rows.voteWithinSpec.post enc Try.prog Try.f7 false true false false) := by
  refine returnsInHanded_of_change (C := Try.checked) own started (by kernel_rfl) Try.func7
    (ChangeSpec.witness6 (enc := enc) (C := Try.checked) false ⟨#[], #[.slice none 0 0, .slice none 0 0, .int .i32 0, .int .i32 0], []⟩ 8 (by kernel_rfl) (by kernel_rfl) (by kernel_rfl) (by kernel_rfl)) ?_
  intro W base args ds gs before hval0 hW hcnd _
  have hval : ∀ (j : Nat) t v, Try.f7.params[j]? = some t → args[j]? = some v → Value.okWide Try.prog W .any base t v := hval0
  have hW' := hW
  obtain ⟨p, q, hA0, hV, rfl, hfz, hnd⟩ := hW
  have hA : DataW.TrodAll enc Try.prog W 0 (fun _ => true) true Try.f7.params.toList args.toList ds p := hA0
  rw [Try.params7] at hA hval
  obtain ⟨v0, vs0, d0, ds0, p0, q0, hargs, rfl, rfl, h0, r0⟩ := trodAll_cons hA
  obtain ⟨v1, vs1, d1, ds1, p1, q1, rfl, rfl, rfl, h1, r1⟩ := trodAll_cons r0
  obtain ⟨v2, vs2, d2, ds2, p2, q2, rfl, rfl, rfl, h2, r2⟩ := trodAll_cons r1
  obtain ⟨v3, vs3, d3, ds3, p3, q3, rfl, rfl, rfl, h3, r3⟩ := trodAll_cons r2
  obtain ⟨rfl, rfl, rfl⟩ := trodAll_nil r3
  obtain rfl : args = #[v0, v1, v2, v3] := by cases args; simp_all
  obtain ⟨rfl, rfl⟩ := trodVars_none hV
  have k0 := h0
  have lt0 : ∀ x ∈ p0, x.block < W.heap.size := by obtain ⟨m, hm⟩ := k0; exact DataW.trod_lt m _ _ _ hm
  have k1 := h1
  have lt1 : ∀ x ∈ p1, x.block < W.heap.size := by obtain ⟨m, hm⟩ := k1; exact DataW.trod_lt m _ _ _ hm
  have k2 := h2
  have lt2 : ∀ x ∈ p2, x.block < W.heap.size := by obtain ⟨m, hm⟩ := k2; exact DataW.trod_lt m _ _ _ hm
  have k3 := h3
  have lt3 : ∀ x ∈ p3, x.block < W.heap.size := by obtain ⟨m, hm⟩ := k3; exact DataW.trod_lt m _ _ _ hm
  obtain ⟨sa0, sl0, sc0, rfl⟩ := okWide_slice Try.underlying50 (hval 0 50 v0 rfl rfl)
  obtain ⟨a0, len0, cap0, z0, e0, w0⟩ := leaf_ints (Try.underlying50) (Try.underlying21) (by kernel_rfl) (by obtain ⟨fuel, hf⟩ := h0; exact ⟨fuel, _, by simpa [Value.cells] using hf⟩)
  simp only [Value.slice.injEq] at e0
  obtain ⟨rfl, rfl, rfl⟩ := e0
  obtain ⟨sa1, sl1, sc1, rfl⟩ := okWide_slice Try.underlying56 (hval 1 56 v1 rfl rfl)
  obtain ⟨a1, len1, cap1, z1, e1, w1⟩ := leaf_bools (Try.underlying56) (Try.underlying4) (by kernel_rfl) (by obtain ⟨fuel, hf⟩ := h1; exact ⟨fuel, _, by simpa [Value.cells] using hf⟩)
  simp only [Value.slice.injEq] at e1
  obtain ⟨rfl, rfl, rfl⟩ := e1
  obtain ⟨a2, rfl, rfl, rfl, w2⟩ := open_int Try.underlying21 (hval 2 21 v2 rfl rfl) h2
  obtain ⟨a3, rfl, rfl, rfl, w3⟩ := open_int Try.underlying21 (hval 3 21 v3 rfl rfl) h3
  clear hA0 hval0
  refine (law sa0 sl0 sc0 z0 sa1 sl1 sc1 z1 a2 a3 W w0 w1 (bounds_i32 w2) (bounds_i32 w3)).mono fun e W' ⟨he, bel⟩ => ?_
  subst he
  exact ⟨_, rfl, _, _, _, [], _, [], hW', trodAll_mk1 (shut_bool Try.underlying4 _), (trodAll_cons_mk (Below.trod laidOut (by kernel_rfl) (of_decide_eq_true (by kernel_rfl)) k0 bel lt0) (trodAll_cons_mk (Below.trod laidOut (by kernel_rfl) (of_decide_eq_true (by kernel_rfl)) k1 bel lt1) (trodAll_cons_mk (Below.trod laidOut (by kernel_rfl) (of_decide_eq_true (by kernel_rfl)) k2 bel lt2) (trodAll_cons_mk (Below.trod laidOut (by kernel_rfl) (of_decide_eq_true (by kernel_rfl)) k3 bel lt3) trodAll_mk0)))), rfl, bel.frame _, fun h => by cases h⟩
theorem over : Rows.voteWithinRow.holds Try.pinned (OpenSpec.ofChange Rows.voteWithinSpec) :=
  OpenClaim.holds_of_wide 7 Try.f7 rfl rfl rfl rfl rfl rfl rfl ⟨rfl, rfl, rfl, rfl, rfl⟩ rfl rfl rfl rfl rfl (by kernel_rfl) Try.func7 (by kernel_rfl)
    (of_decide_eq_true (by kernel_rfl)) (by unfold Func.isWrapper; first | (rw [if_pos (by decide +kernel)]; kernel_rfl) | (rw [if_neg (by decide +kernel)]; exact ⟨rfl, rfl⟩))
    (fun os started H enc _ => lifted os started H enc)
theorem proved : Rows.VoteWithinSaid := over
#print axioms proved

end Go.Proofs.Ytijoalaijkobpaa.voteWithin
