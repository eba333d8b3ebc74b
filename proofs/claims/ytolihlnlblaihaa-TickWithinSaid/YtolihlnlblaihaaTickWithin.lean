/- TickWithin: whatever the numbers are, the law answers true and leaves memory as it was. -/
import Derived.Test.YtolihlnlblaihaaTick
import Derived.Test.YtolihlnlblaihaaSat
namespace Go.Proofs.Ytolihlnlblaihaa.tickWithin
open Go.ChangeShapes Go.WideShapes Go.ChangeAt Go.RowKit Go.Proofs.Ytolihlnlblaihaa Go.Proofs.Ytolihlnlblaihaa.Open
set_option linter.unusedVariables false
theorem sortI_of_perm {xs ys : List Int} (h : xs.Perm ys) : sortI xs = sortI ys := sortI_is ((sortI_perm ys).trans h.symm) (sortI_sorted ys)
theorem sortI_shift (xs : List Int) (b : Int) : sortI (xs.map (· + b)) = (sortI xs).map (· + b) :=
  sortI_is ((sortI_perm xs).map _) ((sortI_sorted xs).map _ (by intro a c h; simpa using h))
theorem rot_perm (xs : List Int) (i : Nat) : (xs.drop i ++ xs.take i).Perm xs := by
  have h := List.perm_append_comm (l₁ := xs.drop i) (l₂ := xs.take i)
  rw [List.take_append_drop] at h
  exact h
theorem rot_len (xs : List Int) (i : Nat) : (xs.drop i ++ xs.take i).length = xs.length := (rot_perm xs i).length_eq
theorem ok_perm {xs ys : List Int} {f : Int} (h : xs.Perm ys) (hx : TickOk xs f) : TickOk ys f := by
  obtain ⟨h1, h2, h3, h4, h5⟩ := hx
  rw [h.length_eq] at h1 h4 h5
  exact ⟨h1, fun x hx => h2 x (h.mem_iff.2 hx), h3, h4, h5⟩
theorem mid_perm {xs ys : List Int} {f : Int} (h : xs.Perm ys) : midI xs f = midI ys f := by
  unfold midI; rw [sortI_of_perm h, h.length_eq]
theorem getD_shift (l : List Int) (b : Int) (j : Nat) (h : j < l.length) : (l.map (· + b)).getD j 0 = l.getD j 0 + b := by
  rw [List.getD_eq_getElem?_getD, List.getD_eq_getElem?_getD, List.getElem?_map, List.getElem?_eq_getElem h]; rfl
theorem mid_shift {xs : List Int} {f b : Int} (h : TickOk xs f) : midI (xs.map (· + b)) f = midI xs f + b := by
  obtain ⟨h1, h2, h3, h4, h5⟩ := h
  unfold midI
  rw [sortI_shift, List.length_map, getD_shift _ _ _ (by rw [sortI_len]; omega), getD_shift _ _ _ (by rw [sortI_len]; omega)]
  omega
theorem sorted_le {xs : List Int} {i j : Nat} (hij : i ≤ j) (hj : j < xs.length) : (sortI xs).getD i 0 ≤ (sortI xs).getD j 0 := by
  have hs := sortI_sorted xs
  rw [List.getD_eq_getElem?_getD, List.getD_eq_getElem?_getD, List.getElem?_eq_getElem (by rw [sortI_len]; omega), List.getElem?_eq_getElem (by rw [sortI_len]; omega)]
  by_cases e : i = j
  · subst e; exact Int.le_refl _
  · exact List.pairwise_iff_getElem.1 hs i j (by rw [sortI_len]; omega) (by rw [sortI_len]; omega) (by omega)
theorem mid_between {xs : List Int} {n : Nat} (h : TickOk xs (n : Int)) (k d : Nat) (hk : k ≤ n) (hd : (xs.length : Int) - n = d + 1) : (sortI xs).getD k 0 ≤ midI xs (n : Int) ∧ midI xs (n : Int) ≤ (sortI xs).getD (k + d) 0 := by
  obtain ⟨h1, h2, h3, h4, h5⟩ := h
  have e : xs.length - 1 - n = d := by omega
  have a1 := sorted_le (xs := xs) hk (by omega)
  have a2 := sorted_le (xs := xs) (show n ≤ d by omega) (by omega)
  have a3 := sorted_le (xs := xs) (show d ≤ k + d by omega) (by omega)
  unfold midI
  rw [Int.toNat_natCast, e]
  omega
theorem four_ok : TickOk [1, 900, 3, -700] 1 := ⟨by decide, by intro x hx; simp at hx; rcases hx with rfl | rfl | rfl | rfl <;> (unfold TickIn; omega), by decide, by decide, by decide⟩
theorem four_mid : midI [1, 900, 3, -700] 1 = 2 := by
  unfold midI
  rw [sortI_is (ys := [-700, 1, 3, 900]) (by decide) (by simp)]
  rfl
theorem own_base {w : World} {base base' : Nat} {e : TypeId} {size : Nat} {v : Value} {n : Nat} {xs : List Value} (h : w.ownsRow base e size v n xs) (hb : base' ≤ base) : w.ownsRow base' e size v n xs := by
  obtain ⟨h0, h1 | ⟨g, cap, cur, e1, e2, e3⟩⟩ := h
  · exact ⟨h0, .inl h1⟩
  · exact ⟨h0, .inr ⟨g, cap, cur, e1, by omega, e3⟩⟩
theorem ints_one {K : IntKind} (xs : List Int) : ∀ u ∈ xs.map (Value.int K), u.oneCell' = true := by
  intro u hu
  obtain ⟨x, -, rfl⟩ := List.mem_map.1 hu
  rfl
/-- a row of the call's own, a cell set -/
theorem own_set {w : World} {base g n cap j : Nat} {e : TypeId} {xs : List Value} (h : w.ownsRow base e 1 (.slice (some ⟨g, 0, none⟩) n cap) n xs) (hj : j < n) (u : Value) : (w.setCell ⟨g, j, none⟩ u).ownsRow base e 1 (.slice (some ⟨g, 0, none⟩) n cap) n (xs.set j u) := by
  obtain ⟨h0, h1 | ⟨g', cap', cur, e1, e2, e3, e4, e5, e6, e7⟩⟩ := h
  · cases h1.1
  · cases e1
    refine ⟨by simpa using h0, .inr ⟨g, cap, cur.setIfInBounds j u, rfl, e2, ?_, e4, e5, by simpa using e6, ?_⟩⟩
    · simp [World.setCell, Array.getElem?_modify, e3]
    · rw [Array.toList_setIfInBounds, List.take_set, e7]
def shiftTo (xs : List Int) (b : Int) (k : Nat) : List Int := (xs.take k).map (· + b) ++ xs.drop k
theorem shiftTo_zero (xs : List Int) (b : Int) : shiftTo xs b 0 = xs := by simp [shiftTo]
theorem shiftTo_all (xs : List Int) (b : Int) : shiftTo xs b xs.length = xs.map (· + b) := by simp [shiftTo]
theorem shiftTo_len (xs : List Int) (b : Int) (k : Nat) (hk : k ≤ xs.length) : (shiftTo xs b k).length = xs.length := by simp [shiftTo]; omega
theorem shiftTo_at (xs : List Int) (b : Int) (k : Nat) (hk : k < xs.length) : (shiftTo xs b k)[k]? = some (xs.getD k 0) := by
  unfold shiftTo
  rw [List.getElem?_append_right (by simp; omega)]
  simp [List.getD_eq_getElem?_getD, List.getElem?_eq_getElem hk]
  rw [Nat.min_eq_left (by omega), Nat.sub_self, Nat.add_zero, List.getElem?_eq_getElem hk]
theorem shiftTo_step (xs : List Int) (b : Int) (k : Nat) (hk : k < xs.length) : (shiftTo xs b k).set k (xs.getD k 0 + b) = shiftTo xs b (k + 1) := by
  unfold shiftTo
  rw [List.set_append_right _ _ (by simp; omega)]
  have e : k - ((xs.take k).map (· + b)).length = 0 := by simp; omega
  rw [e, List.drop_eq_getElem_cons hk, List.set_cons_zero, List.take_succ_eq_append_getElem hk, List.map_append, List.append_assoc]
  simp [List.getD_eq_getElem?_getD, List.getElem?_eq_getElem hk]
def ShRel (rs : List Int) (by' : Int) (w : World) (base g cap : Nat) (E : TypeId) (w0 : World) (i : Value) (wr : World) : Prop :=
  ∃ k : Nat, k ≤ rs.length ∧ i = .int .i64 k ∧ wr.ownsRow base E 1 (.slice (some ⟨g, 0, none⟩) rs.length cap) rs.length ((shiftTo rs by' k).map (.int .i64)) ∧ Below w.heap.size w wr
set_option maxHeartbeats 8000000 in
set_option maxRecDepth 100000 in
theorem way (xs : List Int) (f by' turn : Int) (v : Value) (w : World) (hb64 : -9223372036854775808 ≤ by' ∧ by' ≤ 9223372036854775807) (hv : IntsAt .i64 w v xs) (hm : xs.length ≤ 9223372036854775807) :
    Calls Try.prog 4 #[v, .int .i64 f, .int .i64 by', .int .i64 turn] w fun e w' => e = .returned (.bool true) ∧ Below w.heap.size w w' := by
  obtain ⟨a, cap, rfl⟩ := hv.len
  have HV := Lib.hid hv
  have F0 := Lib.hid (ints_new (E := 3) (K := .i64) w [1, 900, 3, -700] #[.int .i64 1, .int .i64 900, .int .i64 3, .int .i64 (-700)] rfl rfl (by decide))
  clear hv
  go_enter Try.func4, Try.ntmps4
  go_wp2_with fail
  refine (midway_any [1, 900, 3, -700] 1 _ _ F0.out (by decide)).mono ?_
  rintro e w1 ⟨he, -, hb⟩
  replace he := he four_ok
  rw [four_mid] at he
  obtain rfl := he
  have B1 : Below w.heap.size w w1 := by repeat (first | with_reducible exact Below.refl _ _ | ((with_reducible refine Below.setCell ?_ ?_ _); rotate_left; (· first | (simp; done) | omega | (simp; omega))) | with_reducible refine below_drewN ?_ _ | with_reducible refine Below.drew ?_ | ((with_reducible refine Below.trans ?_ (Below.mono hb ?_)); rotate_left; (· first | (simp; done) | omega | (simp; omega))) | ((with_reducible refine Below.alloc ?_ ?_ _); rotate_left; (· first | (simp; done) | omega | (simp; omega))) | exact Below.refl _ _ | refine Below.setCell ?_ (by first | (simp; done) | omega | (simp; omega)) _ | refine below_drewN ?_ _ | refine Below.drew ?_ | refine Below.trans ?_ (Below.mono hb (by first | (simp; done) | omega | (simp; omega))) | refine Below.alloc ?_ (by first | (simp; done) | omega | (simp; omega)) _)
  clear hb F0
  go_wp2_with fail
  refine (midway_any xs f _ _ (HV.out.later B1 (Nat.le_refl _)) hm).mono ?_
  rintro e w2 ⟨h1, h2, hb⟩
  have B2 := B1.trans (hb.mono B1.size)
  clear hb B1
  by_cases hok : TickOk xs f
  · obtain rfl := h1 hok
    obtain ⟨n, rfl⟩ := Int.eq_ofNat_of_zero_le hok.2.2.1
    have HOK := Lib.hid hok
    have hl64 := hok.1
    have hn1 : n < xs.length := by have := hok.2.2.2.1; omega
    obtain ⟨d, hd⟩ : ∃ d : Nat, (xs.length : Int) - (n : Int) = (d : Int) + 1 := ⟨xs.length - n - 1, by omega⟩
    have hdn : xs.length = n + d + 1 := by omega
    have HD := Lib.hid hd; have HDN := Lib.hid hdn
    have mb := midI_bd hok.2.1 (n : Int)
    clear h1 h2 hok hd hdn
    obtain ⟨m, hmm⟩ : ∃ m, midI xs (n : Int) = m := ⟨_, rfl⟩
    rw [hmm] at mb ⊢
    have HM := Lib.hid hmm
    clear hmm
    go_wp2_with fail
    refine (clone_i64 xs _ _ (HV.out.later B2 (Nat.le_refl _)) (by omega)).mono ?_
    rintro e w3 ⟨v3, rfl, hown, hb⟩
    have B3 := B2.trans (hb.mono B2.size)
    obtain ⟨g, capg, rfl, hg1, hg2, hg3, hg4⟩ := (own_form hown).resolve_left (by rintro ⟨-, h⟩; omega)
    have HOWN := Lib.hid hown
    have z23 := B2.size
    clear hown hb
    go_wp2_with fail
    refine (sort_own xs _ _ _ HOWN.out (by omega)).mono ?_
    rintro e w4 ⟨rfl, hown2, hgr⟩
    have B4 : Below w.heap.size w w4 := B3.trans ((Below.refl _ _).grown hgr B3.size (fun j hj => by cases hj; exact Nat.le_trans z23 hg1))
    have HO2 := Lib.hid hown2
    have HB4 := Lib.hid B4
    clear hown2 hgr HOWN B4 B3 B2
    go_wp2
    go_loop [50] (fun i => ∃ k : Nat, k ≤ n + 1 ∧ i = .int .i64 k) (fun i => n + 1 - (intOf i).toNat)
    case atStart => exact ⟨0, Nat.zero_le _, rfl⟩
    case round =>
      obtain ⟨k, hk, rfl⟩ := hrel
      by_cases hlt : k < n + 1
      · have hbt := mid_between HOK.out k d (by omega) HD.out
        rw [HM.out] at hbt
        have c1 := HO2.out.cellAt k (by omega)
        have c2 := HO2.out.cellAt (k + d) (by have := HDN.out; omega)
        have e1 : ((sortI xs).map (Value.int .i64))[k]? = some (.int .i64 ((sortI xs).getD k 0)) := by
          rw [List.getElem?_map, List.getD_eq_getElem?_getD, List.getElem?_eq_getElem (by rw [sortI_len]; omega)]; rfl
        have e2 : ((sortI xs).map (Value.int .i64))[k + d]? = some (.int .i64 ((sortI xs).getD (k + d) 0)) := by
          rw [List.getElem?_map, List.getD_eq_getElem?_getD, List.getElem?_eq_getElem (by rw [sortI_len]; have := HDN.out; omega)]; rfl
        rw [e1] at c1
        rw [e2] at c2
        clear e1 e2
        generalize (sortI xs).getD k 0 = x1 at *
        generalize (sortI xs).getD (k + d) 0 = x2 at *
        have t1 : decide (m < x1) = false := by simp; omega
        have t2 : decide (x2 < m) = false := by simp; omega
        have t3 : (k : Int) < (n : Int) + 1 := by omega
        have hd2 := HD.out
        have hck : ¬ capg = k := by omega
        have hkd : k + d + 1 ≤ capg := by have := HDN.out; omega
        go_wp2
        go_round
        case rel => exact ⟨k + 1, by omega, by go_num⟩
        case measure => simp [intOf]; omega
      · obtain rfl : k = n + 1 := by omega
        have hrb := restI_bd turn xs.length (by omega)
        obtain ⟨r, hr⟩ := Int.eq_ofNat_of_zero_le hrb.1
        have hbb := restI_bd by' 1000 (by omega)
        have HR := Lib.hid hr
        have hrl : r < xs.length := by omega
        clear hr hrb
        go_wp2_with fail
        refine (rest_any turn xs.length (by omega) _).mono ?_
        rintro e w5 ⟨rfl, rfl⟩
        rw [HR.out]
        go_wp2_with fail
        refine (rest_any by' 1000 (by omega) _).mono ?_
        rintro e w5 ⟨rfl, rfl⟩
        obtain ⟨q, hq⟩ : ∃ q, restI by' 1000 = q := ⟨_, rfl⟩
        rw [hq] at hbb ⊢
        clear hq HR
        rcases HV.out with ⟨h0, -⟩ | ⟨-, b, off, cap', hv', hl1, hl2, hc⟩
        · rw [h0] at hn1; simp at hn1
        cases hv'
        have HV4 := Lib.hid (HV.out.later HB4.out (Nat.le_refl _))
        have hcr : ¬ cap = r := by omega
        clear hc
        go_wp2_with fail
        have C1 : SrcAt w4 (.slice (some ⟨b, off + r, none⟩) (xs.length - r) (cap - r)) 1 (xs.length - r) ((xs.drop r).map (.int .i64)) := by
          have := src_ints (ints_drop HV4.out r (by omega) hl1)
          rwa [if_neg hcr, List.length_drop] at this
        have C2 : SrcAt w4 (.slice (some ⟨b, off, none⟩) r cap) 1 r ((xs.take r).map (.int .i64)) := by
          have := src_ints (ints_take HV4.out r (by omega))
          rwa [List.length_take, Nat.min_eq_left (by omega)] at this
        have HC1 := Lib.hid C1; have HC2 := Lib.hid C2
        have z4 := HB4.out.size
        clear C1 C2
        go_region_with ((go_at_call 15; refine (concat_i64 w4.heap.size _ _ (xs.length - r) r _ _ _ (HC1.out.below (((Below.refl w4.heap.size w4).alloc (Nat.le_refl _) _).drew) (Nat.le_refl _)) (HC2.out.below (((Below.refl w4.heap.size w4).alloc (Nat.le_refl _) _).drew) (Nat.le_refl _)) (ints_one _) (ints_one _) (by go_simp) (by go_simp) (by omega)).mono ?_; rintro e5 w5 ⟨v5, rfl, hown5, hb5⟩))
        all_goals
          have N5 : Below w4.heap.size w4 w5 := by repeat (first | with_reducible exact Below.refl _ _ | ((with_reducible refine Below.setCell ?_ ?_ _); rotate_left; (· first | (simp; done) | omega | (simp; omega))) | with_reducible refine below_drewN ?_ _ | with_reducible refine Below.drew ?_ | ((with_reducible refine Below.trans ?_ (Below.mono hb5 ?_)); rotate_left; (· first | (simp; done) | omega | (simp; omega))) | ((with_reducible refine Below.alloc ?_ ?_ _); rotate_left; (· first | (simp; done) | omega | (simp; omega))) | exact Below.refl _ _ | refine Below.setCell ?_ (by first | (simp; done) | omega | (simp; omega)) _ | refine below_drewN ?_ _ | refine Below.drew ?_ | refine Below.trans ?_ (Below.mono hb5 (by first | (simp; done) | omega | (simp; omega))) | refine Below.alloc ?_ (by first | (simp; done) | omega | (simp; omega)) _)
          have B5 := HB4.out.trans (N5.mono z4)
          have hown6 : w5.ownsRow w.heap.size 3 1 v5 (xs.drop r ++ xs.take r).length ((xs.drop r ++ xs.take r).map (.int .i64)) := by
            have := own_base hown5 (show w.heap.size ≤ _ by simp; omega)
            rw [← List.map_append, show xs.length - r + r = (xs.drop r ++ xs.take r).length by rw [rot_len]; omega] at this
            exact this
          have hperm := rot_perm xs r
          obtain ⟨rs, hrs⟩ : ∃ rs, xs.drop r ++ xs.take r = rs := ⟨_, rfl⟩
          rw [hrs] at hown6 hperm
          have hrlen : rs.length = xs.length := hperm.length_eq
          have HP := Lib.hid hperm; have HRL := Lib.hid hrlen
          obtain ⟨g6, cap6, rfl, hg61, hg62, hg63, hg64⟩ := (own_form hown6).resolve_left (by rintro ⟨-, h⟩; omega)
          have HO6 := Lib.hid hown6
          have HOK6 := Lib.hid (ok_perm hperm.symm HOK.out)
          have HM6 : Hid (midI rs (n : Int) = m) := (mid_perm hperm).trans HM.out
          have hrl2 : rs.length ≤ 64 := by omega
          have hrl3 : 0 < rs.length := by omega
          clear hown5 hb5 N5 hown6 hrs hperm hrlen HC1 HC2 HV4
          go_wp2_with fail
          refine (midway_any rs (n : Int) _ _ (own_ints' HO6.out) (by omega)).mono ?_
          rintro e w7 ⟨he, -, hb7⟩
          replace he := he HOK6.out
          rw [HM6.out] at he
          obtain rfl := he
          have B7 := B5.trans (hb7.mono B5.size)
          have HO7 := Lib.hid (own_later HO6.out hb7 (Nat.le_refl _))
          have HB7 := Lib.hid B7
          clear hb7 HO6 B7 B5
          go_wp2
          go_loopw [100] (fun i wr => ShRel rs q w w.heap.size g6 cap6 3 w7 i wr) (fun i _ => rs.length - (intOf i).toNat)
          case atStart => exact ⟨0, Nat.zero_le _, rfl, by rw [shiftTo_zero]; exact HO7.out, HB7.out⟩
          case round =>
            clear HO7 HB7
            obtain ⟨j, hj, rfl, hown, hB⟩ := hrel
            have HO := Lib.hid hown; have HB := Lib.hid hB
            clear hown hB
            by_cases hlt2 : j < rs.length
            · have c1 := HO.out.cellAt j (by omega)
              rw [List.getElem?_map, shiftTo_at _ _ _ hlt2] at c1
              have hin : TickIn (rs.getD j 0) := by
                rw [List.getD_eq_getElem?_getD, List.getElem?_eq_getElem hlt2]
                exact HOK6.out.2.1 _ (List.getElem_mem hlt2)
              unfold TickIn at hin
              have hst := shiftTo_step rs q j hlt2
              obtain ⟨x, hx⟩ : ∃ x, rs.getD j 0 = x := ⟨_, rfl⟩
              rw [hx] at c1 hin hst
              have c1' : wr.cell? ⟨g6, j, none⟩ = some (.int .i64 x) := c1
              have cf : wr.frozen? ⟨g6, j, none⟩ = false := by
                rcases HO.out.2 with ⟨h, -⟩ | ⟨g', cap', cur, h, -, hblk, -⟩
                · cases h
                · cases h; simp [World.frozen?, hblk]
              have hns := own_set HO.out hlt2 (.int .i64 (x + q))
              rw [← List.map_set, hst] at hns
              have HNS := Lib.hid hns
              have HBS := Lib.hid (HB.out.setCell (p := ⟨g6, j, none⟩) hg61 (.int .i64 (x + q)))
              clear c1 hst hx hns HO HB
              go_wp2
              go_roundw
              case rel => exact ⟨j + 1, by omega, by go_num, HNS.out, HBS.out⟩
              case measure => simp [intOf]; omega
            · obtain rfl : j = rs.length := by omega
              have hs := HO.out
              rw [shiftTo_all] at hs
              have hlen : (rs.map (· + q)).length = rs.length := by simp
              have HI := Lib.hid (own_ints' (xs := rs.map (· + q)) (by rw [hlen]; exact hs))
              have hsh := mid_shift (b := q) HOK6.out
              rw [HM6.out] at hsh
              have HSH := Lib.hid hsh
              have B8 := HB.out
              clear hs hlen hsh
              go_wp2_with fail
              refine (midway_any (rs.map (· + q)) (n : Int) _ _ HI.out (by simp; omega)).mono ?_
              rintro e w9 ⟨k1, k2, hb9⟩
              have B9 := B8.trans (hb9.mono B8.size)
              clear hb9
              by_cases hok9 : TickOk (rs.map (· + q)) (n : Int)
              · have he := k1 hok9
                rw [HSH.out] at he
                obtain rfl := he
                have t1 : (m == m) = true := by simp
                have t2 : (m + q == m + q) = true := by simp
                clear k1 k2 hok9
                go_wp2
                go_ret
                exact ⟨by first | rfl | (simp; done), B9⟩
              · obtain rfl := k2 hok9
                have hne : (tickE (rs.map (· + q)) (n : Int) != 0) = true := by rw [bne_iff_ne]; exact tickE_ne _ _
                have t1 : (m == m) = true := by simp
                clear k1 k2 hok9
                generalize tickE (rs.map (· + q)) (n : Int) = z at *
                go_wp2
                go_ret
                exact ⟨by first | rfl | (simp; done), B9⟩
  · obtain rfl := h2 hok
    have hne : (tickE xs f != 0) = true := by rw [bne_iff_ne]; exact tickE_ne _ _
    clear h1 h2 hok
    generalize tickE xs f = m at *
    go_wp2
    go_ret
    exact ⟨rfl, B2⟩
theorem law (a : Option Addr) (len cap : Nat) (zs : List Int) (f by' turn : Int) (w : World) (h2 : IsRow .i64 w a len cap zs) (hf : -9223372036854775808 ≤ f ∧ f ≤ 9223372036854775807) (hb : -9223372036854775808 ≤ by' ∧ by' ≤ 9223372036854775807) (ht : -9223372036854775808 ≤ turn ∧ turn ≤ 9223372036854775807) :
    Calls Try.prog 4 #[.slice a len cap, .int .i64 f, .int .i64 by', .int .i64 turn] w fun e w' => e = .returned (.bool true) ∧ Below w.heap.size w w' := by
  obtain ⟨h5, h6⟩ := isRow_ints h2
  have := h2.maxLen
  have h7 := way (zs.take len) f by' turn _ w hb h5 (by omega)
  exact h7
set_option maxRecDepth 100000 in
theorem lifted (os : Os) (started : os.Started) (H : Type) (enc : TypeId × Value → H) :
    ReturnsInHanded {} Try.checked os 4 .any (Rows.tickWithinSpec.pre6 enc Try.prog Try.f4 Rows.tickWithinRow.domain false) (Rows.tickWithinSpec.post enc Try.prog Try.f4 false true false false) := by
  refine returnsInHanded_of_change (C := Try.checked) own started (by kernel_rfl) Try.func4
    (ChangeSpec.witness6 (enc := enc) (C := Try.checked) false ⟨#[], #[.slice none 0 0, .int .i64 0, .int .i64 0, .int .i64 0], []⟩ 8 (by kernel_rfl) (by kernel_rfl) (by kernel_rfl) (by kernel_rfl)) ?_
  intro W base args ds gs before hval0 hW hcnd _
  have hval : ∀ (j : Nat) t v, Try.f4.params[j]? = some t → args[j]? = some v → Value.okWide Try.prog W .any base t v := hval0
  have hW' := hW
  obtain ⟨p, q, hA0, hV, rfl, hfz, hnd⟩ := hW
  have hA : DataW.TrodAll enc Try.prog W 0 (fun _ => true) true Try.f4.params.toList args.toList ds p := hA0
  rw [Try.params4] at hA hval
  obtain ⟨v0, vs0, d0, ds0, p0, q0, hargs, rfl, rfl, h0, r0⟩ := trodAll_cons hA
  obtain ⟨v1, vs1, d1, ds1, p1, q1, rfl, rfl, rfl, h1, r1⟩ := trodAll_cons r0
  obtain ⟨v2, vs2, d2, ds2, p2, q2, rfl, rfl, rfl, h2, r2⟩ := trodAll_cons r1
  obtain ⟨v3, vs3, d3, ds3, p3, q3, rfl, rfl, rfl, h3, r3⟩ := trodAll_cons r2
  obtain ⟨rfl, rfl, rfl⟩ := trodAll_nil r3
  obtain rfl : args = #[v0, v1, v2, v3] := by cases args; simp_all
  obtain ⟨rfl, rfl⟩ := trodVars_none hV
  have k0 := h0
  have lt0 : ∀ x ∈ p0, x.block < W.heap.size := by obtain ⟨m, hm⟩ := k0; exact DataW.trod_lt m _ _ _ hm
  have k1 := h1
  have lt1 : ∀ x ∈ p1, x.block < W.heap.size := by obtain ⟨m, hm⟩ := k1; exact DataW.trod_lt m _ _ _ hm
  have k2 := h2
  have lt2 : ∀ x ∈ p2, x.block < W.heap.size := by obtain ⟨m, hm⟩ := k2; exact DataW.trod_lt m _ _ _ hm
  have k3 := h3
  have lt3 : ∀ x ∈ p3, x.block < W.heap.size := by obtain ⟨m, hm⟩ := k3; exact DataW.trod_lt m _ _ _ hm
  obtain ⟨sa0, sl0, sc0, rfl⟩ := okWide_slice Try.underlying22 (hval 0 22 v0 rfl rfl)
  obtain ⟨a0, len0, cap0, z0, e0, w0⟩ := leaf_ints (Try.underlying22) (Try.underlying3) (by kernel_rfl) (by obtain ⟨fuel, hf⟩ := h0; exact ⟨fuel, _, by simpa [Value.cells] using hf⟩)
  simp only [Value.slice.injEq] at e0
  obtain ⟨rfl, rfl, rfl⟩ := e0
  obtain ⟨a1, rfl, rfl, rfl, w1⟩ := open_int Try.underlying3 (hval 1 3 v1 rfl rfl) h1
  obtain ⟨a2, rfl, rfl, rfl, w2⟩ := open_int Try.underlying3 (hval 2 3 v2 rfl rfl) h2
  obtain ⟨a3, rfl, rfl, rfl, w3⟩ := open_int Try.underlying3 (hval 3 3 v3 rfl rfl) h3
  clear hA0 hval0
  refine (law sa0 sl0 sc0 z0 a1 a2 a3 W w0 (bounds_i64 w1) (bounds_i64 w2) (bounds_i64 w3)).mono fun e W' ⟨he, bel⟩ => ?_
  subst he
  exact ⟨_, rfl, _, _, _, [], _, [], hW', trodAll_mk1 (shut_bool Try.underlying4 _), (trodAll_cons_mk (Below.trod laidOut (by kernel_rfl) (of_decide_eq_true (by kernel_rfl)) k0 bel lt0) (trodAll_cons_mk (Below.trod laidOut (by kernel_rfl) (of_decide_eq_true (by kernel_rfl)) k1 bel lt1) (trodAll_cons_mk (Below.trod laidOut (by kernel_rfl) (of_decide_eq_true (by kernel_rfl)) k2 bel lt2) (trodAll_cons_mk (Below.trod laidOut (by kernel_rfl) (of_decide_eq_true (by kernel_rfl)) k3 bel lt3) trodAll_mk0)))), rfl, bel.frame _, fun h => by cases h⟩
theorem over : Rows.tickWithinRow.holds Try.pinned (OpenSpec.ofChange Rows.tickWithinSpec) :=
  OpenClaim.holds_of_wide 4 Try.f4 rfl rfl rfl rfl rfl rfl rfl ⟨rfl, rfl, rfl, rfl, rfl⟩ rfl rfl rfl rfl rfl (by kernel_rfl) Try.func4 (by kernel_rfl)
    (of_decide_eq_true (by kernel_rfl)) (by unfold Func.isWrapper; first | (rw [if_pos (by decide +kernel)]; kernel_rfl) | (rw [if_neg (by decide +kernel)]; exact ⟨rfl, rfl⟩))
    (fun os started H enc _ => lifted os started H enc)
theorem proved : Rows.TickWithinSaid := over
#print axioms proved

end Go.Proofs.Ytolihlnlblaihaa.tickWithin
