/- FiltMiddle: whatever the numbers are, the law answers true and leaves memory as it was. -/
import Derived.Test.YtijoalaijkobpaaMid64
import Derived.Test.YtijoalaijkobpaaConcat
import Derived.Test.YtijoalaijkobpaaSat
import Derived.Deep.RegionWith
namespace Go.Proofs.Ytijoalaijkobpaa.filtMiddle
open Go.ChangeShapes Go.WideShapes Go.ChangeAt Go.RowKit Go.Proofs.Ytijoalaijkobpaa Go.Proofs.Ytijoalaijkobpaa.Open
set_option linter.unusedVariables false
theorem rot_perm (xs : List Int) (i : Nat) : (xs.drop i ++ xs.take i).Perm xs := by
  have h := List.perm_append_comm (l₁ := xs.drop i) (l₂ := xs.take i)
  rw [List.take_append_drop] at h
  exact h
theorem own_base {w : World} {B C : Nat} {E : TypeId} {size : Nat} {v : Value} {n : Nat} {xs : List Value} (h : w.ownsRow C E size v n xs) (hB : B ≤ C) : w.ownsRow B E size v n xs := by
  refine ⟨h.1, ?_⟩
  rcases h.2 with h | ⟨g, cap, cur, h1, h2, h3⟩
  · exact .inl h
  · exact .inr ⟨g, cap, cur, h1, by omega, h3⟩
theorem ints_one {K : IntKind} (xs : List Int) : ∀ u ∈ xs.map (Value.int K), u.oneCell' = true := by
  intro u hu
  obtain ⟨x, -, rfl⟩ := List.mem_map.1 hu
  rfl
theorem ints_new {K : IntKind} {E : TypeId} (w : World) (xs : List Int) (cs : Array Value) (hc : cs.toList = xs.map (.int K)) (h : 0 < xs.length) (hl : xs.length ≤ 64) : IntsAt K (w.alloc (.cells cs E)) (.slice (some ⟨w.heap.size, 0, none⟩) xs.length xs.length) xs :=
  .inr ⟨h, w.heap.size, 0, xs.length, rfl, Nat.le_refl _, by omega, fun i hi => by
    rw [Nat.zero_add, cell_of_row _ _ i cs E (0, 0) (heap_alloc_new w _)]
    have : cs[i]? = (xs.map (Value.int K))[i]? := by rw [← hc]; simp
    rw [this, List.getElem?_map, List.getD_eq_getElem?_getD, List.getElem?_eq_getElem hi]; rfl⟩
theorem four_mid : midE [9, 1, 5, 7] = (5, 0) := by
  have h : ([1, 5, 7, 9] : List Int) = sort32 [9, 1, 5, 7] := List.Perm.eq_of_pairwise (by intro a b _ _ h1 h2; omega) (by decide) (sort32_sorted _) ((by decide : ([1, 5, 7, 9] : List Int).Perm [9, 1, 5, 7]).trans (sort32_perm _).symm)
  rw [midE_in (by decide) (by decide)]
  unfold midI
  rw [← h]
  rfl
/-- how many of the first k are so -/
def cntK (p : Int → Bool) (xs : List Int) (k : Nat) : Nat := (xs.take k).countP p
theorem cntK_step (p : Int → Bool) (xs : List Int) (k : Nat) (x : Int) (hk : k < xs.length) (hx : xs.getD k 0 = x) : cntK p xs (k + 1) = cntK p xs k + if p x then 1 else 0 := by
  rw [List.getD_eq_getElem?_getD, List.getElem?_eq_getElem hk] at hx
  unfold cntK
  rw [List.take_succ_eq_append_getElem hk, List.countP_append]
  simp only [Option.getD_some] at hx
  rw [hx]
  simp [List.countP_cons]
theorem cntK_le (p : Int → Bool) (xs : List Int) (k : Nat) : cntK p xs k ≤ k := by
  unfold cntK
  have h1 := List.countP_le_length (p := p) (l := xs.take k)
  rw [List.length_take] at h1
  omega
theorem cntK_all (p : Int → Bool) (xs : List Int) : cntK p xs xs.length = xs.countP p := by unfold cntK; rw [List.take_length]
abbrev lt (m : Int) : Int → Bool := fun x => decide (x < m)
abbrev gt (m : Int) : Int → Bool := fun x => decide (m < x)
def CRel (w0 : World) (m : Int) (xs : List Int) (sb sa sk : Value) (w : World) : Prop := ∃ k : Nat, k ≤ xs.length ∧ sk = .int .i64 k ∧ sb = .int .i64 (cntK (lt m) xs k : Nat) ∧ sa = .int .i64 (cntK (gt m) xs k : Nat) ∧ w0 = w
theorem idx_in {xs : List Int} {x : Int} (h : x ∈ xs) : 0 ≤ idxI xs x := by
  unfold idxI
  split
  · omega
  · rename_i h2
    rw [List.findIdx?_eq_none_iff] at h2
    have := h2 x h
    simp at this
set_option maxHeartbeats 8000000 in
set_option maxRecDepth 100000 in
theorem way (xs : List Int) (k : Int) (v : Value) (w : World) (hv : IntsAt .i32 w v xs) (hx : xs.length ≤ 9223372036854775807) (hxb : ∀ j, -2147483648 ≤ xs.getD j 0 ∧ xs.getD j 0 ≤ 2147483647) :
    Calls Try.prog 6 #[v, .int .i64 k] w fun e w' => e = .returned (.bool true) ∧ Below w.heap.size w w' := by
  obtain ⟨a, cap, rfl⟩ := hv.len
  have HV := Lib.hid hv
  have F0 := Lib.hid (ints_new (E := 21) (K := .i32) w [9, 1, 5, 7] #[.int .i32 9, .int .i32 1, .int .i32 5, .int .i32 7] rfl (by decide) (by decide))
  have HXB := Lib.hid hxb
  clear hv hxb
  go_enter Try.func6, Try.ntmps6
  go_wp2_with fail
  refine (middle_is [9, 1, 5, 7] _ _ F0.out).mono ?_
  rw [four_mid]
  rintro e w1 ⟨rfl, hb⟩
  have B1 : Hid (Below w.heap.size w w1) := by repeat (first | with_reducible exact Below.refl _ _ | ((with_reducible refine Below.setCell ?_ ?_ _); rotate_left; (· first | (simp; done) | omega | (simp; omega))) | with_reducible refine below_drewN ?_ _ | with_reducible refine Below.drew ?_ | ((with_reducible refine Below.trans ?_ (Below.mono hb ?_)); rotate_left; (· first | (simp; done) | omega | (simp; omega))) | ((with_reducible refine Below.alloc ?_ ?_ _); rotate_left; (· first | (simp; done) | omega | (simp; omega))) | exact Below.refl _ _ | refine Below.setCell ?_ (by first | (simp; done) | omega | (simp; omega)) _ | refine below_drewN ?_ _ | refine Below.drew ?_ | refine Below.trans ?_ (Below.mono hb (by first | (simp; done) | omega | (simp; omega))) | refine Below.alloc ?_ (by first | (simp; done) | omega | (simp; omega)) _)
  clear hb F0
  by_cases hin : 0 < xs.length ∧ xs.length ≤ 64
  · obtain ⟨hl0, hl64⟩ := hin
    obtain ⟨m, hm⟩ : ∃ m, midI xs = m := ⟨_, rfl⟩
    have HM := Lib.hid hm
    have hme := midE_in hl0 hl64
    rw [hm] at hme
    have HME := Lib.hid hme
    clear hm hme
    go_wp2_with fail
    refine (middle_is xs _ _ (HV.out.later B1.out (Nat.le_refl _))).mono ?_
    rw [HME.out]
    rintro e w2 ⟨rfl, hb⟩
    have B2 := Lib.hid (B1.out.trans (hb.mono B1.out.size))
    clear hb B1
    go_wp2_with fail
    go_loopw [9, 10, 48] (fun sb sa sk wr => CRel w2 m xs sb sa sk wr) (fun _ _ sk _ => xs.length - (intOf sk).toNat)
    case atStart => exact ⟨0, Nat.zero_le _, rfl, by simp [cntK], by simp [cntK], rfl⟩
    case round =>
      obtain ⟨j, hj, rfl, rfl, rfl, rfl⟩ := hrel
      have hcb := cntK_le (lt m) xs j
      have hca := cntK_le (gt m) xs j
      by_cases hlt : j < xs.length
      · have hst1 := fun x => cntK_step (lt m) xs j x hlt
        have hst2 := fun x => cntK_step (gt m) xs j x hlt
        rcases (HV.out.later B2.out (Nat.le_refl _)) with ⟨h0, -⟩ | ⟨-, b, off, cp, hae, hl1, hm1, hc⟩
        · rw [h0] at hlt; simp at hlt
        simp only [Value.slice.injEq, true_and] at hae
        obtain ⟨rfl, rfl⟩ := hae
        have c1 := hc j hlt
        obtain ⟨x, hx⟩ : ∃ x, xs.getD j 0 = x := ⟨_, rfl⟩
        rw [hx] at c1
        have S1 := Lib.hid (hst1 x hx); have S2 := Lib.hid (hst2 x hx)
        have d1 : (j : Int) < (xs.length : Int) := by omega
        obtain ⟨cb, hcbe⟩ : ∃ n, cntK (lt m) xs j = n := ⟨_, rfl⟩
        obtain ⟨ca, hcae⟩ : ∃ n, cntK (gt m) xs j = n := ⟨_, rfl⟩
        rw [hcbe] at S1 hcb ⊢
        rw [hcae] at S2 hca ⊢
        clear hc hst1 hst2 hx hcbe hcae
        rcases (by omega : x < m ∨ m < x ∨ x = m) with h | h | h
        · have e1 : cntK (lt m) xs (j + 1) = cb + 1 := by rw [S1.out, if_pos (decide_eq_true h)]
          have e2 : cntK (gt m) xs (j + 1) = ca := by rw [S2.out, if_neg (by simp; omega)]; rfl
          have E1 := Lib.hid e1; have E2 := Lib.hid e2
          have t2 : ¬ m < x := by omega
          clear e1 e2
          go_wp2
          go_roundw
          case rel => exact ⟨j + 1, by omega, by go_num, by rw [E1.out]; go_num, by rw [E2.out], rfl⟩
          case measure => simp [intOf]; omega
        · have e1 : cntK (lt m) xs (j + 1) = cb := by rw [S1.out, if_neg (by simp; omega)]; rfl
          have e2 : cntK (gt m) xs (j + 1) = ca + 1 := by rw [S2.out, if_pos (decide_eq_true h)]
          have E1 := Lib.hid e1; have E2 := Lib.hid e2
          have t2 : ¬ x < m := by omega
          clear e1 e2
          go_wp2
          go_roundw
          case rel => exact ⟨j + 1, by omega, by go_num, by rw [E1.out], by rw [E2.out]; go_num, rfl⟩
          case measure => simp [intOf]; omega
        · have e1 : cntK (lt m) xs (j + 1) = cb := by rw [S1.out, if_neg (by simp; omega)]; rfl
          have e2 : cntK (gt m) xs (j + 1) = ca := by rw [S2.out, if_neg (by simp; omega)]; rfl
          have E1 := Lib.hid e1; have E2 := Lib.hid e2
          have t1 : ¬ x < m := by omega
          have t2 : ¬ m < x := by omega
          clear e1 e2 h
          go_wp2
          go_roundw
          case rel => exact ⟨j + 1, by omega, by go_num, by rw [E1.out], by rw [E2.out], rfl⟩
          case measure => simp [intOf]; omega
      · obtain rfl : j = xs.length := by omega
        have k1 := count_low hl0 (lt m) (by intro x h; rw [HM.out] at h; simp; omega)
        have k2 := count_high hl0 (gt m) (by intro x h; rw [HM.out] at h; simp; omega)
        rw [← cntK_all] at k1 k2
        obtain ⟨cb, hcbe⟩ : ∃ n, cntK (lt m) xs xs.length = n := ⟨_, rfl⟩
        obtain ⟨ca, hcae⟩ : ∃ n, cntK (gt m) xs xs.length = n := ⟨_, rfl⟩
        rw [hcbe] at k1 hcb ⊢
        rw [hcae] at k2 hca ⊢
        clear hcbe hcae
        have k1' : 2 * (cb : Int) ≤ (xs.length : Int) - 1 := by omega
        have k2' : 2 * (ca : Int) ≤ (xs.length : Int) := by omega
        have hrb := restI_bd k xs.length (by omega)
        obtain ⟨r, hr⟩ := Int.eq_ofNat_of_zero_le hrb.1
        have HR := Lib.hid hr
        have hrl : r < xs.length := by omega
        clear hr hrb hlt
        go_wp2_with fail
        refine (rest_any k xs.length (by omega) _).mono ?_
        rintro e w5 ⟨rfl, rfl⟩
        rw [HR.out]
        rcases HV.out with ⟨h0, -⟩ | ⟨-, b, off, cap', hv', hl1, hl2, hc⟩
        · rw [h0] at hl0; simp at hl0
        cases hv'
        have HV4 := Lib.hid (HV.out.later B2.out (Nat.le_refl _))
        have hcr : ¬ cap = r := by omega
        clear hc
        go_wp2_with fail
        have C1 : SrcAt w2 (.slice (some ⟨b, off + r, none⟩) (xs.length - r) (cap - r)) 1 (xs.length - r) ((xs.drop r).map (.int .i32)) := by
          have := src_ints (ints_drop HV4.out r (by omega) hl1)
          rwa [if_neg hcr, List.length_drop] at this
        have C2 : SrcAt w2 (.slice (some ⟨b, off, none⟩) r cap) 1 r ((xs.take r).map (.int .i32)) := by
          have := src_ints (ints_take HV4.out r (by omega))
          rwa [List.length_take, Nat.min_eq_left (by omega)] at this
        have HC1 := Lib.hid C1; have HC2 := Lib.hid C2
        have z4 := B2.out.size
        have hrot : midE (xs.drop r ++ xs.take r) = (m, 0) := by
          have hl := (rot_perm xs r).length_eq
          rw [midE_in (by omega) (by omega), midI_of_perm (rot_perm xs r), HM.out]
        have hin : 0 ≤ idxI xs m := idx_in (by rw [← HM.out]; exact midI_mem hl0)
        have HROT := Lib.hid hrot; have HIN := Lib.hid hin
        have rot_ints : ∀ (w5 : World) (v5 : Value) (B : Nat), w5.ownsRow B 21 1 v5 (xs.length - r + r) ((xs.drop r).map (.int .i32) ++ (xs.take r).map (.int .i32)) → IntsAt .i32 w5 v5 (xs.drop r ++ xs.take r) := by
          intro w5 v5 B h
          rw [← List.map_append, show xs.length - r + r = (xs.drop r ++ xs.take r).length by rw [(rot_perm xs r).length_eq]; omega] at h
          exact own_ints' h
        have ROT := Lib.hid rot_ints
        clear C1 C2 hrot hin rot_ints
        go_region_with (first | (go_at_call 18; refine (concat_i32 w2.heap.size _ _ (xs.length - r) r _ _ _ (HC1.out.below (((Below.refl w2.heap.size w2).alloc (Nat.le_refl _) _).drew) (Nat.le_refl _)) (HC2.out.below (((Below.refl w2.heap.size w2).alloc (Nat.le_refl _) _).drew) (Nat.le_refl _)) (ints_one _) (ints_one _) (by go_simp) (by go_simp) (by omega)).mono ?_; rintro e5 w5 ⟨v5, rfl, hown5, hb5⟩) | (go_at_call 17; refine (middle_is (xs.drop r ++ xs.take r) v5 w5 (ROT.out _ _ _ hown5)).mono ?_; rw [HROT.out]; rintro e6 w6 ⟨rfl, hb6⟩))
        all_goals
          have N5 : Below w2.heap.size w2 w5 := by repeat (first | with_reducible exact Below.refl _ _ | ((with_reducible refine Below.setCell ?_ ?_ _); rotate_left; (· first | (simp; done) | omega | (simp; omega))) | with_reducible refine below_drewN ?_ _ | with_reducible refine Below.drew ?_ | ((with_reducible refine Below.trans ?_ (Below.mono hb5 ?_)); rotate_left; (· first | (simp; done) | omega | (simp; omega))) | ((with_reducible refine Below.alloc ?_ ?_ _); rotate_left; (· first | (simp; done) | omega | (simp; omega))) | exact Below.refl _ _ | refine Below.setCell ?_ (by first | (simp; done) | omega | (simp; omega)) _ | refine below_drewN ?_ _ | refine Below.drew ?_ | refine Below.trans ?_ (Below.mono hb5 (by first | (simp; done) | omega | (simp; omega))) | refine Below.alloc ?_ (by first | (simp; done) | omega | (simp; omega)) _)
          have N6 := N5.trans (hb6.mono N5.size)
          have B3 : Below w.heap.size w w6 := B2.out.trans (N6.mono z4)
          have B3' := Lib.hid B3
          have i1 := HIN.out
          obtain ⟨i, hi⟩ : ∃ i, idxI xs m = i := ⟨_, rfl⟩
          rw [hi] at i1
          have HI := Lib.hid hi
          clear hi B3 hb5 hb6 hown5 HC1 HC2 N5 N6
          go_wp2_with fail
          refine (contains_i32 xs _ m _ (HV.out.later B3'.out (Nat.le_refl _)) (by omega)).mono ?_
          rw [HI.out]
          rintro e7 w7 ⟨rfl, rfl⟩
          have i2 : decide (0 ≤ i) = true := decide_eq_true i1
          rw [i2]
          go_wp2
          go_ret
          exact ⟨rfl, B3'.out⟩
  · have ho := midE_out hin
    obtain ⟨m, hm⟩ : ∃ m, midE xs = m := ⟨_, rfl⟩
    obtain ⟨m1, m2⟩ := m
    rw [hm] at ho
    have HME := Lib.hid hm
    simp only at ho
    obtain ⟨rfl, h2⟩ := ho
    clear hm
    go_wp2_with fail
    refine (middle_is xs _ _ (HV.out.later B1.out (Nat.le_refl _))).mono ?_
    rw [HME.out]
    rintro e w2 ⟨rfl, hb⟩
    have B2 := Lib.hid (B1.out.trans (hb.mono B1.out.size))
    have hne : (m2 != 0) = true := by rcases h2 with rfl | rfl <;> rfl
    clear hb B1 h2 HME
    by_cases h0 : xs.length = 0
    · have q1 : ((xs.length : Int) == 0) = true := by rw [h0]; rfl
      go_wp2
      go_ret
      exact ⟨rfl, B2.out⟩
    · have q1 : ((xs.length : Int) == 0) = false := by rw [beq_eq_false_iff_ne]; omega
      have q2 : (64 : Int) < (xs.length : Int) := by omega
      go_wp2
      go_ret
      exact ⟨rfl, B2.out⟩
theorem law (a : Option Addr) (len cap : Nat) (zs : List Int) (k : Int) (w : World) (h2 : IsRow .i32 w a len cap zs) (hk : -9223372036854775808 ≤ k ∧ k ≤ 9223372036854775807) :
    Calls Try.prog 6 #[.slice a len cap, .int .i64 k] w fun e w' => e = .returned (.bool true) ∧ Below w.heap.size w w' := by
  obtain ⟨h5, h6⟩ := isRow_ints h2
  have := h2.maxLen
  have hb := isRow_bd h2
  have h7 := way (zs.take len) k _ w h5 (by omega) (fun j => by
    rw [List.getD_eq_getElem?_getD]
    cases hj : (zs.take len)[j]? with
    | none => simp
    | some y => exact hb y (List.mem_of_mem_take (List.mem_of_getElem? hj)))
  exact h7
set_option maxRecDepth 100000 in
theorem lifted (os : Os) (started : os.Started) (H : Type) (enc : TypeId × Value → H) :
    ReturnsInHanded {} Try.checked os 6 .any (Rows.filtMiddleSpec.pre6 enc Try.prog Try.f6 Rows.filtMiddleRow.domain false) (Rows.filtMiddleSpec.post enc Try.prog Try.f6 false true false false) := by
  refine returnsInHanded_of_change (C := Try.checked) own started (by kernel_rfl) Try.func6
    (ChangeSpec.witness6 (enc := enc) (C := Try.checked) false ⟨#[], #[.slice none 0 0, .int .i64 0], []⟩ 8 (by kernel_rfl) (by kernel_rfl) (by kernel_rfl) (by kernel_rfl)) ?_
  intro W base args ds gs before hval0 hW hcnd _
  have hval : ∀ (j : Nat) t v, Try.f6.params[j]? = some t → args[j]? = some v → Value.okWide Try.prog W .any base t v := hval0
  have hW' := hW
  obtain ⟨p, q, hA0, hV, rfl, hfz, hnd⟩ := hW
  have hA : DataW.TrodAll enc Try.prog W 0 (fun _ => true) true Try.f6.params.toList args.toList ds p := hA0
  rw [Try.params6] at hA hval
  obtain ⟨v0, vs0, d0, ds0, p0, q0, hargs, rfl, rfl, h0, r0⟩ := trodAll_cons hA
  obtain ⟨v1, vs1, d1, ds1, p1, q1, rfl, rfl, rfl, h1, r1⟩ := trodAll_cons r0
  obtain ⟨rfl, rfl, rfl⟩ := trodAll_nil r1
  obtain rfl : args = #[v0, v1] := by cases args; simp_all
  obtain ⟨rfl, rfl⟩ := trodVars_none hV
  have k0 := h0
  have lt0 : ∀ x ∈ p0, x.block < W.heap.size := by obtain ⟨m, hm⟩ := k0; exact DataW.trod_lt m _ _ _ hm
  have k1 := h1
  have lt1 : ∀ x ∈ p1, x.block < W.heap.size := by obtain ⟨m, hm⟩ := k1; exact DataW.trod_lt m _ _ _ hm
  obtain ⟨sa0, sl0, sc0, rfl⟩ := okWide_slice Try.underlying50 (hval 0 50 v0 rfl rfl)
  obtain ⟨a0, len0, cap0, z0, e0, w0⟩ := leaf_ints (Try.underlying50) (Try.underlying21) (by kernel_rfl) (by obtain ⟨fuel, hf⟩ := h0; exact ⟨fuel, _, by simpa [Value.cells] using hf⟩)
  simp only [Value.slice.injEq] at e0
  obtain ⟨rfl, rfl, rfl⟩ := e0
  obtain ⟨a1, rfl, rfl, rfl, w1⟩ := open_int Try.underlying3 (hval 1 3 v1 rfl rfl) h1
  clear hA0 hval0
  refine (law sa0 sl0 sc0 z0 a1 W w0 (bounds_i64 w1)).mono fun e W' ⟨he, bel⟩ => ?_
  subst he
  exact ⟨_, rfl, _, _, _, [], _, [], hW', trodAll_mk1 (shut_bool Try.underlying4 _), (trodAll_cons_mk (Below.trod laidOut (by kernel_rfl) (of_decide_eq_true (by kernel_rfl)) k0 bel lt0) (trodAll_cons_mk (Below.trod laidOut (by kernel_rfl) (of_decide_eq_true (by kernel_rfl)) k1 bel lt1) trodAll_mk0)), rfl, bel.frame _, fun h => by cases h⟩
theorem over : Rows.filtMiddleRow.holds Try.pinned (OpenSpec.ofChange Rows.filtMiddleSpec) :=
  OpenClaim.holds_of_wide 6 Try.f6 rfl rfl rfl rfl rfl rfl rfl ⟨rfl, rfl, rfl, rfl, rfl⟩ rfl rfl rfl rfl rfl (by kernel_rfl) Try.func6 (by kernel_rfl)
    (of_decide_eq_true (by kernel_rfl)) (by unfold Func.isWrapper; first | (rw [if_pos (by decide +kernel)]; kernel_rfl) | (rw [if_neg (by decide +kernel)]; exact ⟨rfl, rfl⟩))
    (fun os started H enc _ => lifted os started H enc)
theorem proved : Rows.FiltMiddleSaid := over
#print axioms proved

end Go.Proofs.Ytijoalaijkobpaa.filtMiddle
