/- TickHalf: whatever the numbers are, the law answers true and leaves memory as it was. -/
import Derived.Test.YtolihlnlblaihaaMaxMin
import Derived.Deep.DeepCutAuto
import Derived.RegionTactic
namespace Go.Proofs.Ytolihlnlblaihaa.tickHalf
open Go.ChangeShapes Go.WideShapes Go.ChangeAt Go.RowKit Go.Proofs.Ytolihlnlblaihaa Go.Proofs.Ytolihlnlblaihaa.Open
set_option linter.unusedVariables false
theorem three_ok : TickOk [0, 10, 4] 0 := ⟨by decide, by intro x hx; simp at hx; rcases hx with rfl | rfl | rfl <;> (unfold TickIn; omega), by decide, by decide, by decide⟩
theorem three_mid : midI [0, 10, 4] 0 = 5 := by
  unfold midI
  rw [sortI_is (ys := [0, 4, 10]) (by decide) (by simp)]
  rfl
theorem own_base {w : World} {base base' : Nat} {e : TypeId} {size : Nat} {v : Value} {n : Nat} {xs : List Value} (h : w.ownsRow base e size v n xs) (hb : base' ≤ base) : w.ownsRow base' e size v n xs := by
  obtain ⟨h0, h1 | ⟨g, cap, cur, e1, e2, e3⟩⟩ := h
  · exact ⟨h0, .inl h1⟩
  · exact ⟨h0, .inr ⟨g, cap, cur, e1, by omega, e3⟩⟩
theorem ints_one {K : IntKind} (xs : List Int) : ∀ u ∈ xs.map (Value.int K), u.oneCell' = true := by
  intro u hu
  obtain ⟨x, -, rfl⟩ := List.mem_map.1 hu
  rfl
theorem ints_cap {K : IntKind} {w : World} {a : Option Addr} {n cap : Nat} {xs : List Int} (h : IntsAt K w (.slice a n cap) xs) : n ≤ cap := by
  rcases h with ⟨-, h | ⟨x, c, h⟩⟩ | ⟨-, b, off, c, h, h1, -⟩
  · cases h; exact Nat.le_refl _
  · cases h; exact Nat.zero_le _
  · cases h; exact h1
theorem catfix {w : World} {base base' s n : Nat} {E : TypeId} {v : Value} {S A : List Int} (h : w.ownsRow base E 1 v (s + n) (S.map (.int .i64) ++ A.map (.int .i64))) (hb : base' ≤ base) (h1 : S.length = s) (h2 : A.length = n) :
    w.ownsRow base' E 1 v (S ++ A).length ((S ++ A).map (.int .i64)) := by
  rw [List.length_append, h1, h2, List.map_append]
  exact own_base h hb
structure Half (S : List Int) (n : Nat) (X Y : List Int) : Prop where
  lx : X.length = S.length + n
  ly : Y.length = S.length + n
  near : 2 * n < S.length → midI X n - midI Y n ≤ (maxI S - minI S + 1) / 2 ∧ midI Y n - midI X n ≤ (maxI S - minI S + 1) / 2 ∧ minI S ≤ midI X n ∧ midI X n ≤ maxI S
  mem : ∀ x ∈ S, x ∈ X
theorem half_of {S A B : List Int} {n : Nat} (h1 : A.length = n) (h2 : B.length = n) : Half S n (S ++ A) (S ++ B) where
  lx := by rw [List.length_append, h1]
  ly := by rw [List.length_append, h2]
  near := fun h => ⟨(half_le S A B n h1 h2 h).1, (half_le S B A n h2 h1 h).1, (half_le S A B n h1 h2 h).2⟩
  mem := fun x hx => List.mem_append_left _ hx
def CatRel (S : List Int) (n : Nat) (E : TypeId) (w : World) (s10 s11 : Value) (wx : World) : Prop :=
  ∃ X Y p c q d, s10 = .slice p X.length c ∧ s11 = .slice q Y.length d ∧ Half S n X Y ∧ wx.ownsRow w.heap.size E 1 s10 X.length (X.map (.int .i64)) ∧ wx.ownsRow w.heap.size E 1 s11 Y.length (Y.map (.int .i64)) ∧ Below w.heap.size w wx
theorem own_slice {w : World} {base : Nat} {e : TypeId} {v : Value} {n : Nat} {xs : List Value} (h : w.ownsRow base e 1 v n xs) : ∃ p c, v = .slice p n c := by
  rcases own_form h with ⟨e, h1⟩ | ⟨g, cap, e, -⟩
  · exact ⟨none, 0, by rw [e, h1]⟩
  · exact ⟨_, _, e⟩
theorem catrel {S A B : List Int} {n : Nat} {E : TypeId} {w wx : World} {v10 v11 : Value} (ha : A.length = n) (hb : B.length = n) (h1 : wx.ownsRow w.heap.size E 1 v10 (S ++ A).length ((S ++ A).map (.int .i64))) (h2 : wx.ownsRow w.heap.size E 1 v11 (S ++ B).length ((S ++ B).map (.int .i64))) (h3 : Below w.heap.size w wx) : CatRel S n E w v10 v11 wx := by
  obtain ⟨p, c, e1⟩ := own_slice h1
  obtain ⟨q, d, e2⟩ := own_slice h2
  exact ⟨_, _, p, c, q, d, e1, e2, half_of ha hb, h1, h2, h3⟩
set_option maxHeartbeats 8000000 in
set_option maxRecDepth 100000 in
theorem way (S ys zs : List Int) (u v t : Value) (w : World) (hS : IntsAt .i64 w u S) (ha : IntsAt .i64 w v ys) (hb : IntsAt .i64 w t zs) (h1 : S.length * 8 ≤ 140737488351232) (h2 : ys.length * 8 ≤ 140737488351232) (h3 : zs.length * 8 ≤ 140737488351232) :
    Calls Try.prog 5 #[u, v, t] w fun e w' => e = .returned (.bool true) ∧ Below w.heap.size w w' := by
  obtain ⟨a0, cap0, rfl⟩ := hS.len
  obtain ⟨a1, cap1, rfl⟩ := ha.len
  obtain ⟨a2, cap2, rfl⟩ := hb.len
  have HS := Lib.hid hS; have HA := Lib.hid ha; have HB := Lib.hid hb
  have F0 := Lib.hid (ints_new (E := 3) (K := .i64) w [0, 10, 4] #[.int .i64 0, .int .i64 10, .int .i64 4] rfl rfl (by decide))
  clear hS ha hb
  go_enter Try.func5, Try.ntmps5
  go_wp2_with fail
  refine (midway_any [0, 10, 4] 0 _ _ F0.out (by decide)).mono ?_
  rintro e w1 ⟨he, -, hb⟩
  replace he := he three_ok
  rw [three_mid] at he
  obtain rfl := he
  have B1 := Lib.hid (by repeat (first | with_reducible exact Below.refl _ _ | ((with_reducible refine Below.setCell ?_ ?_ _); rotate_left; (· first | (simp; done) | omega | (simp; omega))) | with_reducible refine below_drewN ?_ _ | with_reducible refine Below.drew ?_ | ((with_reducible refine Below.trans ?_ (Below.mono hb ?_)); rotate_left; (· first | (simp; done) | omega | (simp; omega))) | ((with_reducible refine Below.alloc ?_ ?_ _); rotate_left; (· first | (simp; done) | omega | (simp; omega))) | exact Below.refl _ _ | refine Below.setCell ?_ (by first | (simp; done) | omega | (simp; omega)) _ | refine below_drewN ?_ _ | refine Below.drew ?_ | refine Below.trans ?_ (Below.mono hb (by first | (simp; done) | omega | (simp; omega))) | refine Below.alloc ?_ (by first | (simp; done) | omega | (simp; omega)) _) : Below w.heap.size w w1)
  clear hb F0
  obtain ⟨n, hn⟩ : ∃ n, min ys.length zs.length = n := ⟨_, rfl⟩
  have hna : n ≤ ys.length := by omega
  have hnb : n ≤ zs.length := by omega
  have hc1 := ints_cap HA.out
  have hc2 := ints_cap HB.out
  have C0 := src_ints (HS.out.later B1.out (Nat.le_refl _))
  have CA : SrcAt w1 (.slice a1 n cap1) 1 n ((ys.take n).map (.int .i64)) := by
    have := src_ints (ints_take (HA.out.later B1.out (Nat.le_refl _)) n hna)
    rwa [List.length_take, Nat.min_eq_left hna] at this
  have CB : SrcAt w1 (.slice a2 n cap2) 1 n ((zs.take n).map (.int .i64)) := by
    have := src_ints (ints_take (HB.out.later B1.out (Nat.le_refl _)) n hnb)
    rwa [List.length_take, Nat.min_eq_left hnb] at this
  have HC0 := Lib.hid C0; have HCA := Lib.hid CA; have HCB := Lib.hid CB
  have hla : (ys.take n).length = n := by rw [List.length_take, Nat.min_eq_left hna]
  have hlb : (zs.take n).length = n := by rw [List.length_take, Nat.min_eq_left hnb]
  have HLA := Lib.hid hla; have HLB := Lib.hid hlb
  have z1 := B1.out.size
  have hmin : (min (ys.length : Int) (zs.length : Int)) = (n : Int) := by omega
  clear C0 CA CB hn hla hlb
  go_upto_region 5 with (fail)
  clear hmin
  have hn1 : n ≤ cap1 := by omega
  have hn2 : n ≤ cap2 := by omega
  go_cut [10, 11] (fun s10 s11 wx => CatRel S n 3 w s10 s11 wx)
  case first =>
    go_region_with (first | (go_at_call 15; refine (concat_i64 _ _ _ S.length n _ _ _ (HC0.out.below ?_ (Nat.le_refl _)) (HCA.out.below ?_ (Nat.le_refl _)) (ints_one _) (ints_one _) ?_ ?_ ?_).mono ?_; (focus ((repeat (first | with_reducible exact Below.refl _ _ | with_reducible exact NB | refine Below.drew ?_ | (refine Below.alloc ?_ ?_ _; rotate_left; focus (first | exact Nat.le_refl _ | (simp; done) | (simp; omega) | omega)))); done)); (focus ((repeat (first | with_reducible exact Below.refl _ _ | with_reducible exact NB | refine Below.drew ?_ | (refine Below.alloc ?_ ?_ _; rotate_left; focus (first | exact Nat.le_refl _ | (simp; done) | (simp; omega) | omega)))); done)); (focus (first | (go_simp; done) | (rw [chB]; · (go_simp; done); · (first | (simp; done) | (simp; omega))))); (focus (first | (go_simp; done) | (rw [chB]; · (go_simp; done); · (first | (simp; done) | (simp; omega))))); (focus omega); rintro eA wA ⟨vA, rfl, hownA, hbA⟩; have HA := Lib.hid (catfix hownA (show w.heap.size ≤ _ by first | omega | (simp; omega)) rfl HLA.out); have NA : Below w1.heap.size w1 wA := Below.trans (by (repeat (first | with_reducible exact Below.refl _ _ | with_reducible exact NB | refine Below.drew ?_ | (refine Below.alloc ?_ ?_ _; rotate_left; focus (first | exact Nat.le_refl _ | (simp; done) | (simp; omega) | omega))))) (hbA.mono (by (first | exact Nat.le_refl _ | (simp; done) | (simp; omega) | omega))); obtain ⟨chA, fhA⟩ := Open.bcell hbA; have zhA := hbA.size; try (simp at zhA)) | (go_at_call 15; refine (concat_i64 _ _ _ S.length n _ _ _ (HC0.out.below ?_ (Nat.le_refl _)) (HCB.out.below ?_ (Nat.le_refl _)) (ints_one _) (ints_one _) ?_ ?_ ?_).mono ?_; (focus ((repeat (first | with_reducible exact Below.refl _ _ | with_reducible exact NA | refine Below.drew ?_ | (refine Below.alloc ?_ ?_ _; rotate_left; focus (first | exact Nat.le_refl _ | (simp; done) | (simp; omega) | omega)))); done)); (focus ((repeat (first | with_reducible exact Below.refl _ _ | with_reducible exact NA | refine Below.drew ?_ | (refine Below.alloc ?_ ?_ _; rotate_left; focus (first | exact Nat.le_refl _ | (simp; done) | (simp; omega) | omega)))); done)); (focus (first | (go_simp; done) | (rw [chA]; · (go_simp; done); · (first | (simp; done) | (simp; omega))))); (focus (first | (go_simp; done) | (rw [chA]; · (go_simp; done); · (first | (simp; done) | (simp; omega))))); (focus omega); rintro eB wB ⟨vB, rfl, hownB, hbB⟩; have HB := Lib.hid (catfix hownB (show w.heap.size ≤ _ by first | omega | (simp; omega)) rfl HLB.out); have NB : Below w1.heap.size w1 wB := Below.trans (by (repeat (first | with_reducible exact Below.refl _ _ | with_reducible exact NA | refine Below.drew ?_ | (refine Below.alloc ?_ ?_ _; rotate_left; focus (first | exact Nat.le_refl _ | (simp; done) | (simp; omega) | omega))))) (hbB.mono (by (first | exact Nat.le_refl _ | (simp; done) | (simp; omega) | omega))); obtain ⟨chB, fhB⟩ := Open.bcell hbB; have zhB := hbB.size; try (simp at zhB)))
    all_goals
      go_wp2_with fail
      go_meet
      refine catrel HLA.out HLB.out ?_ HB.out (B1.out.trans (NB.mono z1))
      first | exact own_later HA.out hbB (Nat.le_refl _) | exact own_later (HA.out.alloc _) hbB (Nat.le_refl _) | exact own_later HA.out (by repeat (first | with_reducible exact Below.refl _ _ | ((with_reducible refine Below.setCell ?_ ?_ _); rotate_left; (· first | (simp; done) | omega | (simp; omega))) | with_reducible refine below_drewN ?_ _ | with_reducible refine Below.drew ?_ | ((with_reducible refine Below.trans ?_ (Below.mono hbB ?_)); rotate_left; (· first | (simp; done) | omega | (simp; omega))) | ((with_reducible refine Below.alloc ?_ ?_ _); rotate_left; (· first | (simp; done) | omega | (simp; omega))) | exact Below.refl _ _ | refine Below.setCell ?_ (by first | (simp; done) | omega | (simp; omega)) _ | refine below_drewN ?_ _ | refine Below.drew ?_ | refine Below.trans ?_ (Below.mono hbB (by first | (simp; done) | omega | (simp; omega))) | refine Below.alloc ?_ (by first | (simp; done) | omega | (simp; omega)) _)) (Nat.le_refl _)
  case rest =>
    clear HC0 HCA HCB hn1 hn2 hc1 hc2 HLA HLB
    obtain ⟨X, Y, p, c, q, d, rfl, rfl, hH, hA, hB, hBl⟩ := hcut
    have HS2 := Lib.hid (HS.out.later hBl (Nat.le_refl _))
    clear HS HA HB
    have HA := Lib.hid (own_ints' hA); have HB := Lib.hid (own_ints' hB); have BC := Lib.hid hBl
    have hXl := hH.lx
    have hYl := hH.ly
    have HH := Lib.hid hH; have HXL := Lib.hid hXl; have HYL := Lib.hid hYl
    clear hA hB hBl hH B1 z1
    by_cases h3 : S.length + n ≤ 3 * n
    · have t1 : (X.length : Int) ≤ 3 * (n : Int) := by omega
      clear h3 hXl hYl
      go_wp2
      go_ret
      exact ⟨rfl, BC.out⟩
    · have t1 : ¬ (X.length : Int) ≤ 3 * (n : Int) := by omega
      have t3 : 3 * (n : Int) < (X.length : Int) := by omega
      have t2 : ((S.length : Int) == 0) = false := by rw [beq_eq_false_iff_ne]; omega
      have hS0 : 0 < S.length := by omega
      have hS2 : 2 * n < S.length := by omega
      have HF := Lib.hid (HH.out.near hS2)
      have hXn : X.length ≤ 9223372036854775807 := by omega
      have hYn : Y.length ≤ 9223372036854775807 := by omega
      clear h3 hS2 hXl hYl
      go_wp2_with fail
      refine (midway_any X (n : Int) _ _ HA.out hXn).mono ?_
      rintro e w3 ⟨h1p, h2p, hb⟩
      have B3 := BC.out.trans (hb.mono BC.out.size)
      have HY3 := Lib.hid (HB.out.later hb (Nat.le_refl _))
      have HS3 := Lib.hid (HS2.out.later hb (Nat.le_refl _))
      clear hb HB HS2 HA BC
      by_cases hokx : TickOk X (n : Int)
      · obtain rfl := h1p hokx
        clear h1p h2p
        have bp := midI_bd hokx.2.1 (n : Int)
        have HOKX := Lib.hid hokx
        clear hokx
        obtain ⟨mp, hmp⟩ : ∃ m, midI X (n : Int) = m := ⟨_, rfl⟩
        rw [hmp] at bp ⊢
        have HMP := Lib.hid hmp
        clear hmp
        go_wp2_with fail
        refine (midway_any Y (n : Int) _ _ HY3.out hYn).mono ?_
        rintro e w4 ⟨h1p, h2p, hb⟩
        have B4 := B3.trans (hb.mono B3.size)
        have HS4 := Lib.hid (HS3.out.later hb (Nat.le_refl _))
        clear hb HY3 HS3 B3
        by_cases hoky : TickOk Y (n : Int)
        · obtain rfl := h1p hoky
          clear h1p h2p
          have bq := midI_bd hoky.2.1 (n : Int)
          have HF2 := HF.out
          have b1 : TickIn (maxI S) := HOKX.out.2.1 _ (HH.out.mem _ (maxTo_in S S.length hS0 (Nat.le_refl _)))
          have b2 : TickIn (minI S) := HOKX.out.2.1 _ (HH.out.mem _ (minTo_in S S.length hS0 (Nat.le_refl _)))
          clear hoky
          obtain ⟨mq, hmq⟩ : ∃ m, midI Y (n : Int) = m := ⟨_, rfl⟩
          rw [HMP.out, hmq] at HF2
          rw [hmq] at bq ⊢
          obtain ⟨A, hA⟩ : ∃ m, maxI S = m := ⟨_, rfl⟩
          obtain ⟨I, hI⟩ : ∃ m, minI S = m := ⟨_, rfl⟩
          have HMA := Lib.hid hA; have HMI := Lib.hid hI
          rw [hA, hI] at HF2
          rw [hA] at b1
          rw [hI] at b2
          unfold TickIn at b1 b2
          obtain ⟨f1, f2, f3, f4⟩ := HF2
          clear hmq hA hI HF HH HMP HOKX
          have hSm : S.length ≤ 4611686018427387904 := by omega
          go_wp2_with fail
          refine (slicesMax_i64 S _ _ HS4.out hS0 hSm).mono ?_
          rintro e w5 ⟨rfl, rfl⟩
          rw [HMA.out]
          go_wp2_with fail
          refine (slicesMin_i64 S _ _ HS4.out hS0 hSm).mono ?_
          rintro e w5 ⟨rfl, rfl⟩
          rw [HMI.out]
          obtain ⟨dd, hdd⟩ : ∃ d, max (mp - mq) (mq - mp) = d := ⟨_, rfl⟩
          have q1 : dd ≤ (A - I + 1).tdiv 2 := by rw [Int.tdiv_eq_ediv_of_nonneg (by omega)]; omega
          go_wp2_with fail
          refine (slicesMin_i64 S _ _ HS4.out hS0 hSm).mono ?_
          rintro e w5 ⟨rfl, rfl⟩
          rw [HMI.out]
          go_wp2_with fail
          refine (slicesMax_i64 S _ _ HS4.out hS0 hSm).mono ?_
          rintro e w5 ⟨rfl, rfl⟩
          rw [HMA.out]
          go_wp2
          go_ret
          exact ⟨rfl, B4⟩
        · obtain rfl := h2p hoky
          have hne : (tickE Y (n : Int) != 0) = true := by rw [bne_iff_ne]; exact tickE_ne _ _
          clear h1p h2p hoky
          generalize tickE Y (n : Int) = m at *
          go_wp2
          go_ret
          exact ⟨rfl, B4⟩
      · obtain rfl := h2p hokx
        have hne : (tickE X (n : Int) != 0) = true := by rw [bne_iff_ne]; exact tickE_ne _ _
        clear h1p h2p hokx
        generalize tickE X (n : Int) = m at *
        go_wp2_with fail
        refine (midway_any Y (n : Int) _ _ HY3.out hYn).mono ?_
        rintro e w4 ⟨h1p, h2p, hb⟩
        have B4 := B3.trans (hb.mono B3.size)
        clear hb HY3 HS3 B3
        by_cases hoky : TickOk Y (n : Int)
        · obtain rfl := h1p hoky
          clear h1p h2p hoky
          generalize midI Y (n : Int) = mq at *
          go_wp2
          go_ret
          exact ⟨rfl, B4⟩
        · obtain rfl := h2p hoky
          clear h1p h2p hoky
          generalize tickE Y (n : Int) = m2 at *
          go_wp2
          go_ret
          exact ⟨rfl, B4⟩
theorem law (a0 : Option Addr) (n0 c0 : Nat) (zs0 : List Int) (a1 : Option Addr) (n1 c1 : Nat) (zs1 : List Int) (a2 : Option Addr) (n2 c2 : Nat) (zs2 : List Int) (w : World) (h0 : IsRow .i64 w a0 n0 c0 zs0) (r0 : n0 ≤ c0 ∧ c0 * 8 ≤ 140737488351232) (h1 : IsRow .i64 w a1 n1 c1 zs1) (r1 : n1 ≤ c1 ∧ c1 * 8 ≤ 140737488351232) (h2 : IsRow .i64 w a2 n2 c2 zs2) (r2 : n2 ≤ c2 ∧ c2 * 8 ≤ 140737488351232) :
    Calls Try.prog 5 #[.slice a0 n0 c0, .slice a1 n1 c1, .slice a2 n2 c2] w fun e w' => e = .returned (.bool true) ∧ Below w.heap.size w w' := by
  obtain ⟨g0, g0'⟩ := isRow_ints h0
  obtain ⟨g1, g1'⟩ := isRow_ints h1
  obtain ⟨g2, g2'⟩ := isRow_ints h2
  have h7 := way (zs0.take n0) (zs1.take n1) (zs2.take n2) _ _ _ w g0 g1 g2 (by omega) (by omega) (by omega)
  exact h7
set_option maxRecDepth 100000 in
theorem lifted (os : Os) (started : os.Started) (H : Type) (enc : TypeId × Value → H) :
    ReturnsInHanded {} Try.checked os 5 .any (Rows.tickHalfSpec.pre6 enc Try.prog Try.f5 Rows.tickHalfRow.domain false) (Rows.tickHalfSpec.post enc Try.prog Try.f5 false true false false) := by
  refine returnsInHanded_of_change_sized (C := Try.checked) own started (by kernel_rfl) Try.func5
    (ChangeSpec.witness6 (enc := enc) (C := Try.checked) false ⟨#[], #[.slice none 0 0, .slice none 0 0, .slice none 0 0], []⟩ 8 (by kernel_rfl) (by kernel_rfl) (by kernel_rfl) (by kernel_rfl)) ?_
  intro W base args ds gs before hval0 hW hcnd hsz0 _
  have hsz : (DataW.weightsEach Try.prog (Try.f5.params.toList ++ Rows.tickHalfSpec.plain.varTypes Try.prog) (ds ++ gs)).all (· ≤ reachBytes) = true := hsz0
  have hval : ∀ (j : Nat) t v, Try.f5.params[j]? = some t → args[j]? = some v → Value.okWide Try.prog W .any base t v := hval0
  have hW' := hW
  obtain ⟨p, q, hA0, hV, rfl, hfz, hnd⟩ := hW
  have hA : DataW.TrodAll enc Try.prog W 0 (fun _ => true) true Try.f5.params.toList args.toList ds p := hA0
  rw [Try.params5] at hA hval hsz
  obtain ⟨v0, vs0, d0, ds0, p0, q0, hargs, rfl, rfl, h0, r0⟩ := trodAll_cons hA
  obtain ⟨v1, vs1, d1, ds1, p1, q1, rfl, rfl, rfl, h1, r1⟩ := trodAll_cons r0
  obtain ⟨v2, vs2, d2, ds2, p2, q2, rfl, rfl, rfl, h2, r2⟩ := trodAll_cons r1
  obtain ⟨rfl, rfl, rfl⟩ := trodAll_nil r2
  obtain rfl : args = #[v0, v1, v2] := by cases args; simp_all
  obtain ⟨rfl, rfl⟩ := trodVars_none hV
  have k0 := h0
  have lt0 : ∀ x ∈ p0, x.block < W.heap.size := by obtain ⟨m, hm⟩ := k0; exact DataW.trod_lt m _ _ _ hm
  have k1 := h1
  have lt1 : ∀ x ∈ p1, x.block < W.heap.size := by obtain ⟨m, hm⟩ := k1; exact DataW.trod_lt m _ _ _ hm
  have k2 := h2
  have lt2 : ∀ x ∈ p2, x.block < W.heap.size := by obtain ⟨m, hm⟩ := k2; exact DataW.trod_lt m _ _ _ hm
  obtain ⟨sa0, sl0, sc0, rfl⟩ := okWide_slice Try.underlying22 (hval 0 22 v0 rfl rfl)
  obtain ⟨a0, len0, cap0, z0, e0, w0⟩ := leaf_ints (Try.underlying22) (Try.underlying3) (by kernel_rfl) (by obtain ⟨fuel, hf⟩ := h0; exact ⟨fuel, _, by simpa [Value.cells] using hf⟩)
  simp only [Value.slice.injEq] at e0
  obtain ⟨rfl, rfl, rfl⟩ := e0
  have R0 := cap_le (B := 8) Try.underlying22 k0 (fun elems spare hd => by have := sized_slice hsz (j := 0) (t := 22) (e := 3) (elems := elems) (spare := spare) rfl (by rw [← hd]; rfl) Try.underlying22; exact this)
  obtain ⟨sa1, sl1, sc1, rfl⟩ := okWide_slice Try.underlying22 (hval 1 22 v1 rfl rfl)
  obtain ⟨a1, len1, cap1, z1, e1, w1⟩ := leaf_ints (Try.underlying22) (Try.underlying3) (by kernel_rfl) (by obtain ⟨fuel, hf⟩ := h1; exact ⟨fuel, _, by simpa [Value.cells] using hf⟩)
  simp only [Value.slice.injEq] at e1
  obtain ⟨rfl, rfl, rfl⟩ := e1
  have R1 := cap_le (B := 8) Try.underlying22 k1 (fun elems spare hd => by have := sized_slice hsz (j := 1) (t := 22) (e := 3) (elems := elems) (spare := spare) rfl (by rw [← hd]; rfl) Try.underlying22; exact this)
  obtain ⟨sa2, sl2, sc2, rfl⟩ := okWide_slice Try.underlying22 (hval 2 22 v2 rfl rfl)
  obtain ⟨a2, len2, cap2, z2, e2, w2⟩ := leaf_ints (Try.underlying22) (Try.underlying3) (by kernel_rfl) (by obtain ⟨fuel, hf⟩ := h2; exact ⟨fuel, _, by simpa [Value.cells] using hf⟩)
  simp only [Value.slice.injEq] at e2
  obtain ⟨rfl, rfl, rfl⟩ := e2
  have R2 := cap_le (B := 8) Try.underlying22 k2 (fun elems spare hd => by have := sized_slice hsz (j := 2) (t := 22) (e := 3) (elems := elems) (spare := spare) rfl (by rw [← hd]; rfl) Try.underlying22; exact this)
  clear hA0 hval0
  refine (law sa0 sl0 sc0 z0 sa1 sl1 sc1 z1 sa2 sl2 sc2 z2 W w0 R0 w1 R1 w2 R2).mono fun e W' ⟨he, bel⟩ => ?_
  subst he
  exact ⟨_, rfl, _, _, _, [], _, [], hW', trodAll_mk1 (shut_bool Try.underlying4 _), (trodAll_cons_mk (Below.trod laidOut (by kernel_rfl) (of_decide_eq_true (by kernel_rfl)) k0 bel lt0) (trodAll_cons_mk (Below.trod laidOut (by kernel_rfl) (of_decide_eq_true (by kernel_rfl)) k1 bel lt1) (trodAll_cons_mk (Below.trod laidOut (by kernel_rfl) (of_decide_eq_true (by kernel_rfl)) k2 bel lt2) trodAll_mk0))), rfl, bel.frame _, fun h => by cases h⟩
theorem over : Rows.tickHalfRow.holds Try.pinned (OpenSpec.ofChange Rows.tickHalfSpec) :=
  OpenClaim.holds_of_wide 5 Try.f5 rfl rfl rfl rfl rfl rfl rfl ⟨rfl, rfl, rfl, rfl, rfl⟩ rfl rfl rfl rfl rfl (by kernel_rfl) Try.func5 (by kernel_rfl)
    (of_decide_eq_true (by kernel_rfl)) (by unfold Func.isWrapper; first | (rw [if_pos (by decide +kernel)]; kernel_rfl) | (rw [if_neg (by decide +kernel)]; exact ⟨rfl, rfl⟩))
    (fun os started H enc _ => lifted os started H enc)
theorem proved : Rows.TickHalfSaid := over
#print axioms proved

end Go.Proofs.Ytolihlnlblaihaa.tickHalf
