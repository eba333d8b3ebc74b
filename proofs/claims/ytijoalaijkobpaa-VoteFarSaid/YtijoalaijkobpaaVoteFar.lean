/- VoteFar: whatever the numbers are, the law answers true and leaves memory as it was. -/
import Derived.Test.YtijoalaijkobpaaFar
import Derived.Test.YtijoalaijkobpaaSat
namespace Go.Proofs.Ytijoalaijkobpaa.voteFar
open Go.ChangeShapes Go.WideShapes Go.ChangeAt Go.RowKit Go.Proofs.Ytijoalaijkobpaa Go.Proofs.Ytijoalaijkobpaa.Open
set_option linter.unusedVariables false
theorem ints_new {K : IntKind} {E : TypeId} (w : World) (xs : List Int) (cs : Array Value) (hc : cs.toList = xs.map (.int K)) (h : 0 < xs.length) (hl : xs.length ≤ 64) : IntsAt K (w.alloc (.cells cs E)) (.slice (some ⟨w.heap.size, 0, none⟩) xs.length xs.length) xs :=
  .inr ⟨h, w.heap.size, 0, xs.length, rfl, Nat.le_refl _, by omega, fun i hi => by
    rw [Nat.zero_add, cell_of_row _ _ i cs E (0, 0) (heap_alloc_new w _)]
    have : cs[i]? = (xs.map (Value.int K))[i]? := by rw [← hc]; simp
    rw [this, List.getElem?_map, List.getD_eq_getElem?_getD, List.getElem?_eq_getElem hi]; rfl⟩
theorem bools_new {E : TypeId} (w : World) (b : Nat) (hb : b = w.heap.size) (xs : List Bool) (cs : Array Value) (hc : cs.toList = xs.map .bool) (h : 0 < xs.length) (hl : xs.length ≤ 64) : BoolsAt (w.alloc (.cells cs E)) (.slice (some ⟨b, 0, none⟩) xs.length xs.length) xs := by
  subst hb
  exact .inr ⟨h, w.heap.size, 0, xs.length, rfl, Nat.le_refl _, by omega, fun i hi => by
    rw [Nat.zero_add, cell_of_row _ _ i cs E (0, 0) (heap_alloc_new w _)]
    have : cs[i]? = (xs.map Value.bool)[i]? := by rw [← hc]; simp
    rw [this, List.getElem?_map, List.getD_eq_getElem?_getD, List.getElem?_eq_getElem hi]; rfl⟩
theorem three_mid : voteE [1, 2, 90] [true, true, true] = (2, 0) := by
  have h : ([1, 2, 90] : List Int) = sort32 [1, 2, 90] := List.Perm.eq_of_pairwise (by intro a b _ _ h1 h2; omega) (by decide) (sort32_sorted _) (sort32_perm _).symm
  have h2 : hearK [1, 2, 90] [true, true, true] ([1, 2, 90] : List Int).length = [1, 2, 90] := by decide
  unfold voteE
  rw [if_pos (by decide), h2, midE_in (by decide) (by decide)]
  unfold midI
  rw [← h]
  rfl
theorem three_far : farK [1, 2, 90] [true, true, true] 2 10 3 = [false, false, true] := by decide
theorem voteE_err {xs : List Int} {oks : List Bool} (h : (voteE xs oks).2 ≠ 0) : (voteE xs oks).1 = 0 := by
  unfold voteE at h ⊢
  split
  · rename_i h2
    rw [if_pos h2] at h
    by_cases h3 : 0 < (hearK xs oks xs.length).length ∧ (hearK xs oks xs.length).length ≤ 64
    · rw [midE_in h3.1 h3.2] at h; exact absurd rfl h
    · exact (midE_out h3).1
  · rfl
theorem voteE_ok {xs : List Int} {oks : List Bool} (h : (voteE xs oks).2 = 0) : xs.length = oks.length ∧ xs.length ≤ 64 ∧ 0 < (hearK xs oks xs.length).length ∧ (voteE xs oks).1 = midI (hearK xs oks xs.length) := by
  unfold voteE at h ⊢
  by_cases h2 : hearE xs oks = 0
  · rw [if_pos h2] at h ⊢
    have h4 : xs.length = oks.length ∧ xs.length ≤ 64 := by
      unfold hearE at h2
      by_cases e : 64 < xs.length
      · rw [if_pos e] at h2; omega
      · rw [if_neg e] at h2
        by_cases e2 : xs.length = oks.length
        · exact ⟨e2, by omega⟩
        · rw [if_neg e2] at h2; omega
    by_cases h3 : 0 < (hearK xs oks xs.length).length ∧ (hearK xs oks xs.length).length ≤ 64
    · exact ⟨h4.1, h4.2, h3.1, by rw [midE_in h3.1 h3.2]⟩
    · exfalso; rcases (midE_out h3).2 with e | e <;> rw [e] at h <;> omega
  · rw [if_neg h2] at h; exact absurd h h2
theorem hearK_mem {xs : List Int} {oks : List Bool} {x : Int} (k : Nat) (h : x ∈ hearK xs oks k) : ∃ j, j < k ∧ xs.getD j 0 = x := by
  induction k with
  | zero => simp [hearK] at h
  | succ k ih =>
    rw [hearK] at h
    split at h
    · rcases List.mem_append.1 h with h | h
      · obtain ⟨j, h1, h2⟩ := ih h; exact ⟨j, by omega, h2⟩
      · exact ⟨k, by omega, (List.mem_singleton.1 h).symm⟩
    · obtain ⟨j, h1, h2⟩ := ih h; exact ⟨j, by omega, h2⟩
theorem far1_true {y : Bool} {x mid m : Int} (h : far1 y x mid m = true) : y = true ∧ m < apartI x mid := by
  unfold far1 at h
  unfold apartI absI
  cases y
  · simp at h
  · simp at h; exact ⟨rfl, by omega⟩
theorem far1_false {x mid m : Int} (h : far1 true x mid m = false) : apartI x mid ≤ m := by
  unfold far1 at h
  unfold apartI absI
  simp at h
  omega
set_option maxHeartbeats 8000000 in
set_option maxRecDepth 100000 in
theorem way (xs : List Int) (oks : List Bool) (m : Int) (v u : Value) (w : World) (hv : IntsAt .i32 w v xs) (hu : BoolsAt w u oks) (hx : xs.length ≤ 9223372036854775807) (hy : oks.length ≤ 9223372036854775807) (hm : -2147483648 ≤ m ∧ m ≤ 2147483647) (hxb : ∀ j, -2147483648 ≤ xs.getD j 0 ∧ xs.getD j 0 ≤ 2147483647) :
    Calls Try.prog 8 #[v, u, .int .i32 m] w fun e w' => e = .returned (.bool true) ∧ Below w.heap.size w w' := by
  obtain ⟨av, cv, rfl⟩ := hv.len
  obtain ⟨au, cu, rfl⟩ := hu.len
  have HV := Lib.hid hv; have HU := Lib.hid hu; have HXB := Lib.hid hxb
  have F0 := Lib.hid (ints_new (E := 21) (K := .i32) w [1, 2, 90] #[.int .i32 1, .int .i32 2, .int .i32 90] rfl (by decide) (by decide))
  have G0 := Lib.hid (bools_new (E := 4) (w.alloc (.cells #[.int .i32 1, .int .i32 2, .int .i32 90] 21)) (w.heap.size + 1) (by simp) [true, true, true] #[.bool true, .bool true, .bool true] rfl (by decide) (by decide))
  clear hv hu hxb
  go_enter Try.func8, Try.ntmps8
  go_wp2_with fail
  refine (far_is [1, 2, 90] [true, true, true] 10 2 _ _ _ (F0.out.later (((Below.refl _ _).alloc (Nat.le_refl _) _)) (Nat.le_refl _)) G0.out (by decide) (by decide) three_mid rfl (by decide) (by decide) (by decide) (by
    intro j
    rcases (by omega : j = 0 ∨ j = 1 ∨ j = 2 ∨ 2 < j) with rfl | rfl | rfl | h
    · decide
    · decide
    · decide
    · rw [List.getD_eq_getElem?_getD, List.getElem?_eq_none (by simp; omega)]; decide)).mono ?_
  rintro e w1 ⟨v1, rfl, hown, hb⟩
  rw [show farK [1, 2, 90] [true, true, true] 2 10 ([1, 2, 90] : List Int).length = [false, false, true] from three_far] at hown
  obtain ⟨g1, cap1, rfl, hg1, hg2, hg3, hg4⟩ := (own_form hown).resolve_left (by rintro ⟨-, h⟩; simp at h)
  have HO1 := Lib.hid (own_bools' (xs := [false, false, true]) hown)
  have B1 : Hid (Below w.heap.size w w1) := by repeat (first | with_reducible exact Below.refl _ _ | ((with_reducible refine Below.setCell ?_ ?_ _); rotate_left; (· first | (simp; done) | omega | (simp; omega))) | with_reducible refine below_drewN ?_ _ | with_reducible refine Below.drew ?_ | ((with_reducible refine Below.trans ?_ (Below.mono hb ?_)); rotate_left; (· first | (simp; done) | omega | (simp; omega))) | ((with_reducible refine Below.alloc ?_ ?_ _); rotate_left; (· first | (simp; done) | omega | (simp; omega))) | exact Below.refl _ _ | refine Below.setCell ?_ (by first | (simp; done) | omega | (simp; omega)) _ | refine below_drewN ?_ _ | refine Below.drew ?_ | refine Below.trans ?_ (Below.mono hb (by first | (simp; done) | omega | (simp; omega))) | refine Below.alloc ?_ (by first | (simp; done) | omega | (simp; omega)) _)
  have z1 := B1.out.size
  clear hb F0 G0 hown
  go_wp2_with fail
  refine (equal_bool [false, false, true] [false, false, true] _ _ _ (HO1.out.later ((Below.refl _ _).alloc (Nat.le_refl _) _) (Nat.le_refl _)) (bools_new (E := 4) w1 w1.heap.size rfl [false, false, true] #[.bool false, .bool false, .bool true] rfl (by decide) (by decide)) (by decide) (by decide)).mono ?_
  rintro e w2 ⟨n2, rfl, rfl⟩
  rw [show (decide (([false, false, true] : List Bool) = [false, false, true])) = true from rfl]
  have B2 : Hid (Below w.heap.size w ((w1.alloc (.cells #[.bool false, .bool false, .bool true] 4)).drewN n2)) := by
    have := B1.out
    repeat (first | with_reducible exact Below.refl _ _ | with_reducible exact this | ((with_reducible refine Below.setCell ?_ ?_ _); rotate_left; (· first | (simp; done) | omega | (simp; omega))) | with_reducible refine below_drewN ?_ _ | with_reducible refine Below.drew ?_ | ((with_reducible refine Below.alloc ?_ ?_ _); rotate_left; (· first | (simp; done) | omega | (simp; omega))) | exact Below.refl _ _ | exact this | refine Below.setCell ?_ (by first | (simp; done) | omega | (simp; omega)) _ | refine below_drewN ?_ _ | refine Below.drew ?_ | refine Below.alloc ?_ (by first | (simp; done) | omega | (simp; omega)) _)
  generalize (w1.alloc (.cells #[.bool false, .bool false, .bool true] 4)).drewN n2 = w2 at *
  clear HO1 B1 z1 hg1 hg2 hg3 hg4
  go_wp2_with fail
  by_cases hok : farErr xs oks m = 0
  · have hv2 : (voteE xs oks).2 = 0 := by
      unfold farErr at hok
      by_cases h : (voteE xs oks).2 = 0
      · exact h
      · rw [if_neg h] at hok; exact absurd hok h
    have hm0 : 0 ≤ m := by
      unfold farErr at hok
      rw [if_pos hv2] at hok
      by_cases h : m < 0
      · rw [if_pos h] at hok; omega
      · omega
    obtain ⟨hlo, hl64, hn0, hmv⟩ := voteE_ok hv2
    obtain ⟨mid, hmid⟩ : ∃ q, (voteE xs oks).1 = q := ⟨_, rfl⟩
    rw [hmid] at hmv
    have hve : voteE xs oks = (mid, 0) := by rw [← hmid, ← hv2]
    obtain ⟨jm, hjm, hjv⟩ := hearK_mem xs.length (show mid ∈ hearK xs oks xs.length by rw [hmv]; exact midI_mem hn0)
    have hmb := HXB.out jm
    rw [hjv] at hmb
    have HVE := Lib.hid hve; have HLO := Lib.hid hlo; have HJV := Lib.hid hjv
    have h0x : 0 < xs.length := by omega
    clear hok hv2 hmid hmv hve hlo hn0 hjv
    refine (far_is xs oks m mid _ _ _ (HV.out.later B2.out (Nat.le_refl _)) (HU.out.later B2.out (Nat.le_refl _)) hx hy HVE.out HLO.out hl64 (by omega) hmb HXB.out).mono ?_
    rintro e w3 ⟨v3, rfl, hown, hb⟩
    obtain ⟨g, capg, rfl, hg1, hg2, hg3, hg4⟩ := (own_form hown).resolve_left (by rintro ⟨-, h⟩; omega)
    have B3 := Lib.hid (B2.out.trans (hb.mono B2.out.size))
    have HO3 := Lib.hid hown
    clear hown hb B2
    go_wp2_with fail
    refine (vmid_is xs oks _ _ _ (HV.out.later B3.out (Nat.le_refl _)) (HU.out.later B3.out (Nat.le_refl _)) hx hy).mono ?_
    rw [HVE.out]
    rintro e w4 ⟨rfl, hb⟩
    have B4 := Lib.hid (B3.out.trans (hb.mono B3.out.size))
    have HO4 := Lib.hid (own_later HO3.out hb (Nat.le_refl _))
    have hne : ((xs.length : Int) != (xs.length : Int)) = false := by simp
    clear hb B3 HO3 hg2
    have CELL : ∀ k, k < xs.length → w4.cell? ⟨g, k, none⟩ = some (.bool (far1 (oks.getD k false) (xs.getD k 0) mid m)) := by
      intro k hk
      rw [HO4.out.cellAt k (by omega), List.getElem?_map]
      have h1 := farK_at xs oks mid m xs.length k hk
      rw [List.getD_eq_getElem?_getD, List.getElem?_eq_getElem (by rw [farK_len]; exact hk)] at h1
      rw [List.getElem?_eq_getElem (by rw [farK_len]; exact hk), ← h1]; rfl
    have HCELL := Lib.hid CELL
    clear CELL
    go_wp2_with fail
    go_loop [65] (fun i => ∃ k : Nat, k ≤ xs.length ∧ i = .int .i64 k) (fun i => xs.length - (intOf i).toNat)
    case atStart => exact ⟨0, Nat.zero_le _, rfl⟩
    case round =>
      obtain ⟨i, hi, rfl⟩ := hrel
      by_cases hlt : i < xs.length
      · rcases (HV.out.later B4.out (Nat.le_refl _)) with ⟨h0, -⟩ | ⟨-, b1, off, cp, hae, hl1, hm1, hc⟩
        · rw [h0] at hlt; simp at hlt
        rcases (HU.out.later B4.out (Nat.le_refl _)) with ⟨h0, -⟩ | ⟨-, b2, off2, cp2, hae2, hl2, hm2, hc2⟩
        · have := HLO.out; rw [h0, List.length_nil] at this; omega
        simp only [Value.slice.injEq, true_and] at hae hae2
        obtain ⟨rfl, rfl⟩ := hae
        obtain ⟨rfl, rfl⟩ := hae2
        have HC := Lib.hid hc; have HC2 := Lib.hid hc2
        have lo2 := HLO.out
        have hlt2 : i < oks.length := by omega
        have xi1 := hc i hlt
        have xi2 := hc2 i hlt2
        have xi3 := HCELL.out i hlt
        have xib := HXB.out i
        have FT := @far1_true (oks.getD i false) (xs.getD i 0) mid m
        obtain ⟨fi, hfi⟩ : ∃ f, far1 (oks.getD i false) (xs.getD i 0) mid m = f := ⟨_, rfl⟩
        rw [hfi] at xi3 FT
        obtain ⟨x, hxe⟩ : ∃ x, xs.getD i 0 = x := ⟨_, rfl⟩
        obtain ⟨y, hye⟩ : ∃ y, oks.getD i false = y := ⟨_, rfl⟩
        rw [hxe] at xi1 xib FT
        rw [hye] at xi2 FT
        have HFT := Lib.hid FT
        have d1 : (i : Int) < (xs.length : Int) := by omega
        have d2 : (i : Int) < (oks.length : Int) := by omega
        have d3 : i < capg := by omega
        clear hc hc2 hfi hxe hye FT lo2
        go_wp2_with fail
        go_loop [72] (fun j => ∃ k : Nat, k ≤ xs.length ∧ j = .int .i64 k) (fun j => xs.length - (intOf j).toNat)
        case atStart => exact ⟨0, Nat.zero_le _, rfl⟩
        case round =>
          obtain ⟨j, hj, rfl⟩ := hrel
          by_cases hlt3 : j < xs.length
          · have lo2 := HLO.out
            have hlt4 : j < oks.length := by omega
            have yj1 := HC.out j hlt3
            have yj2 := HC2.out j hlt4
            have yj3 := HCELL.out j hlt3
            have yjb := HXB.out j
            have FF := @far1_false (xs.getD j 0) mid m
            obtain ⟨x', hxe⟩ : ∃ x, xs.getD j 0 = x := ⟨_, rfl⟩
            obtain ⟨y', hye⟩ : ∃ y, oks.getD j false = y := ⟨_, rfl⟩
            rw [hxe] at yj1 yj3 yjb FF
            rw [hye] at yj2 yj3
            obtain ⟨fj, hfj⟩ : ∃ f, far1 y' x' mid m = f := ⟨_, rfl⟩
            rw [hfj] at yj3
            have HFF := Lib.hid FF; have HFJ := Lib.hid hfj
            have d4 : (j : Int) < (xs.length : Int) := by omega
            have d5 : (j : Int) < (oks.length : Int) := by omega
            have d6 : j < capg := by omega
            clear hfj hxe hye FF lo2
            cases fi with
            | false =>
              go_wp2
              go_round
              case rel => exact ⟨j + 1, by omega, by go_num⟩
              case measure => simp [intOf]; omega
            | true =>
              cases y' with
              | false =>
                go_wp2
                go_round
                case rel => exact ⟨j + 1, by omega, by go_num⟩
                case measure => simp [intOf]; omega
              | true =>
                cases fj with
                | true =>
                  go_wp2
                  go_round
                  case rel => exact ⟨j + 1, by omega, by go_num⟩
                  case measure => simp [intOf]; omega
                | false =>
                  have k1 := (HFT.out rfl).2
                  have k2 := HFF.out HFJ.out
                  go_wp2_with fail
                  refine (apart_any x mid xib hmb _).mono ?_
                  rintro e w5 ⟨rfl, rfl⟩
                  go_wp2_with fail
                  refine (apart_any x' mid yjb hmb _).mono ?_
                  rintro e w5 ⟨rfl, rfl⟩
                  obtain ⟨A, hA⟩ : ∃ A, apartI x mid = A := ⟨_, rfl⟩
                  obtain ⟨B, hB⟩ : ∃ B, apartI x' mid = B := ⟨_, rfl⟩
                  rw [hA] at k1 ⊢
                  rw [hB] at k2 ⊢
                  have k3 : ¬ A ≤ B := by omega
                  clear hA hB k1 k2
                  go_wp2
                  go_round
                  case rel => exact ⟨j + 1, by omega, by go_num⟩
                  case measure => simp [intOf]; omega
          · obtain rfl : j = xs.length := by omega
            cases fi with
            | false =>
              go_wp2
              go_round
              case rel => exact ⟨i + 1, by omega, by go_num⟩
              case measure => simp [intOf]; omega
            | true =>
              have k0 := (HFT.out rfl).1
              have k1 := (HFT.out rfl).2
              subst k0
              go_upto_region 17 with (fail)
              go_cut [2, 37, 124] (fun s2 s37 sv wx => s2 = .int .i32 m ∧ s37 = .int .i32 m ∧ sv = .bool false ∧ w4 = wx)
              case first =>
                by_cases hmm : m = 2147483647
                · have HMM := Lib.hid hmm
                  have m1 : (m == 2147483647) = true := by simpa using hmm
                  go_wp2_with fail
                  refine (apart_any x mid xib hmb _).mono ?_
                  rintro e w5 ⟨rfl, rfl⟩
                  obtain ⟨A, hA⟩ : ∃ A, apartI x mid = A := ⟨_, rfl⟩
                  rw [hA] at k1 ⊢
                  have k3 : ¬ A ≤ 2147483647 := by omega
                  clear hA k1
                  go_wp2
                  go_meet
                  exact ⟨by first | rfl | rw [HMM.out], by first | rfl | rw [HMM.out], by first | rfl | (congr 1; exact decide_eq_false (by omega)), rfl⟩
                · have m1 : (m == 2147483647) = false := by simpa using hmm
                  go_wp2
                  go_meet
                  exact ⟨rfl, rfl, rfl, rfl⟩
              case rest =>
                obtain ⟨rfl, rfl, rfl, rfl⟩ := hcut
                go_wp2
                go_round
                case rel => exact ⟨i + 1, by omega, by go_num⟩
                case measure => simp [intOf]; omega
      · obtain rfl : i = xs.length := by omega
        go_wp2_with fail
        refine (spread_is xs _ _ (HV.out.later B4.out (Nat.le_refl _)) ⟨h0x, hl64⟩ HXB.out).mono ?_
        rintro e w5 ⟨s, rfl, ⟨n5, rfl⟩, hs⟩
        by_cases hsm : m < s
        · clear hs
          go_wp2
          go_ret
          exact ⟨rfl, by have := B4.out; repeat (first | with_reducible exact Below.refl _ _ | with_reducible exact this | ((with_reducible refine Below.setCell ?_ ?_ _); rotate_left; (· first | (simp; done) | omega | (simp; omega))) | with_reducible refine below_drewN ?_ _ | with_reducible refine Below.drew ?_ | ((with_reducible refine Below.alloc ?_ ?_ _); rotate_left; (· first | (simp; done) | omega | (simp; omega))) | exact Below.refl _ _ | exact this | refine Below.setCell ?_ (by first | (simp; done) | omega | (simp; omega)) _ | refine below_drewN ?_ _ | refine Below.drew ?_ | refine Below.alloc ?_ (by first | (simp; done) | omega | (simp; omega)) _)⟩
        · have hno : ∀ j, j < xs.length → (farK xs oks mid m xs.length).getD j false ≠ true := by
            intro j hj e
            rw [farK_at _ _ _ _ _ _ hj] at e
            have h1 := (far1_true e).2
            have h2 := hs j jm hj hjm
            have h3 := hs jm j hjm hj
            rw [HJV.out] at h2 h3
            unfold apartI absI at h1
            omega
          have HNO := Lib.hid hno
          have HBO : Hid (BoolsAt w4 (.slice (some ⟨g, 0, none⟩) xs.length capg) (farK xs oks mid m xs.length)) := own_bools' (xs := farK xs oks mid m xs.length) (by rw [farK_len]; exact HO4.out)
          clear hs hno
          go_wp2_with fail
          refine (contains_none (farK xs oks mid m xs.length) _ true _ (by have := HBO.out; exact this) (by rw [farK_len]; exact hx) (by rw [farK_len]; exact HNO.out)).mono ?_
          rintro e w6 ⟨rfl, rfl⟩
          go_wp2
          go_ret
          exact ⟨rfl, by have := B4.out; repeat (first | with_reducible exact Below.refl _ _ | with_reducible exact this | ((with_reducible refine Below.setCell ?_ ?_ _); rotate_left; (· first | (simp; done) | omega | (simp; omega))) | with_reducible refine below_drewN ?_ _ | with_reducible refine Below.drew ?_ | ((with_reducible refine Below.alloc ?_ ?_ _); rotate_left; (· first | (simp; done) | omega | (simp; omega))) | exact Below.refl _ _ | exact this | refine Below.setCell ?_ (by first | (simp; done) | omega | (simp; omega)) _ | refine below_drewN ?_ _ | refine Below.drew ?_ | refine Below.alloc ?_ (by first | (simp; done) | omega | (simp; omega)) _)⟩
  · obtain ⟨er, her⟩ : ∃ er, farErr xs oks m = er := ⟨_, rfl⟩
    have HER := Lib.hid her
    have hne : (er != 0) = true := by rw [her] at hok; simpa using hok
    have HOK := Lib.hid hok
    clear her hok
    refine (far_not xs oks m _ _ _ (HV.out.later B2.out (Nat.le_refl _)) (HU.out.later B2.out (Nat.le_refl _)) hx hy HOK.out).mono ?_
    rw [HER.out]
    rintro e w3 ⟨rfl, hb⟩
    have B3 := Lib.hid (B2.out.trans (hb.mono B2.out.size))
    clear hb B2
    obtain ⟨q, hq⟩ : ∃ q, voteE xs oks = q := ⟨_, rfl⟩
    obtain ⟨q1, q2⟩ := q
    have HQ := Lib.hid hq
    clear hq
    go_wp2_with fail
    refine (vmid_is xs oks _ _ _ (HV.out.later B3.out (Nat.le_refl _)) (HU.out.later B3.out (Nat.le_refl _)) hx hy).mono ?_
    rw [HQ.out]
    rintro e w4 ⟨rfl, hb⟩
    have B4 := Lib.hid (B3.out.trans (hb.mono B3.out.size))
    clear hb B3
    go_wp2
    go_ret
    exact ⟨rfl, B4.out⟩
theorem law (a : Option Addr) (len cap : Nat) (zs : List Int) (c : Option Addr) (len2 cap2 : Nat) (ys : List Bool) (m : Int) (w : World) (h1 : IsRow .i32 w a len cap zs) (h2 : IsRowB w c len2 cap2 ys) (hm : -2147483648 ≤ m ∧ m ≤ 2147483647) :
    Calls Try.prog 8 #[.slice a len cap, .slice c len2 cap2, .int .i32 m] w fun e w' => e = .returned (.bool true) ∧ Below w.heap.size w w' := by
  obtain ⟨h5, h6⟩ := isRow_ints h1
  obtain ⟨h7, h8⟩ := isRowB_bools h2
  have := h1.maxLen
  have := h2.maxLen
  have hb := isRow_bd h1
  exact way (zs.take len) (ys.take len2) m _ _ w h5 h7 (by omega) (by omega) hm (fun j => by
    rw [List.getD_eq_getElem?_getD]
    cases hj : (zs.take len)[j]? with
    | none => simp
    | some y => exact hb y (List.mem_of_mem_take (List.mem_of_getElem? hj)))
set_option maxRecDepth 100000 in
theorem lifted (os : Os) (started : os.Started) (H : Type) (enc : TypeId × Value → H) :
    ReturnsInHanded {} Try.checked os 8 .any (Rows.voteFarSpec.pre6 enc Try.prog Try.f8 Rows.voteFarRow.domain false) (Rows.voteFarSpec.post enc Try.prog Try.f8 false true false false) := by
  refine returnsInHanded_of_change (C := Try.checked) own started (by kernel_rfl) Try.func8
    (ChangeSpec.witness6 (enc := enc) (C := Try.checked) false ⟨#[], #[.slice none 0 0, .slice none 0 0, .int .i32 0], []⟩ 8 (by kernel_rfl) (by kernel_rfl) (by kernel_rfl) (by kernel_rfl)) ?_
  intro W base args ds gs before hval0 hW hcnd _
  have hval : ∀ (j : Nat) t v, Try.f8.params[j]? = some t → args[j]? = some v → Value.okWide Try.prog W .any base t v := hval0
  have hW' := hW
  obtain ⟨p, q, hA0, hV, rfl, hfz, hnd⟩ := hW
  have hA : DataW.TrodAll enc Try.prog W 0 (fun _ => true) true Try.f8.params.toList args.toList ds p := hA0
  rw [Try.params8] at hA hval
  obtain ⟨v0, vs0, d0, ds0, p0, q0, hargs, rfl, rfl, h0, r0⟩ := trodAll_cons hA
  obtain ⟨v1, vs1, d1, ds1, p1, q1, rfl, rfl, rfl, h1, r1⟩ := trodAll_cons r0
  obtain ⟨v2, vs2, d2, ds2, p2, q2, rfl, rfl, rfl, h2, r2⟩ := trodAll_cons r1
  obtain ⟨rfl, rfl, rfl⟩ := trodAll_nil r2
  obtain rfl : args = #[v0, v1, v2] := by cases args; simp_all
  obtain ⟨rfl, rfl⟩ := trodVars_none hV
  have k0 := h0
  have lt0 : ∀ x ∈ p0, x.block < W.heap.size := by obtain ⟨m, hm⟩ := k0; exact DataW.trod_lt m _ _ _ hm
  have k1 := h1
  have lt1 : ∀ x ∈ p1, x.block < W.heap.size := by obtain ⟨m, hm⟩ := k1; exact DataW.trod_lt m _ _ _ hm
  have k2 := h2
  have lt2 : ∀ x ∈ p2, x.block < W.heap.size := by obtain ⟨m, hm⟩ := k2; exact DataW.trod_lt m _ _ _ hm
  obtain ⟨sa0, sl0, sc0, rfl⟩ := okWide_slice Try.underlying50 (hval 0 50 v0 rfl rfl)
  obtain ⟨a0, len0, cap0, z0, e0, w0⟩ := leaf_ints (Try.underlying50) (Try.underlying21) (by kernel_rfl) (by obtain ⟨fuel, hf⟩ := h0; exact ⟨fuel, _, by simpa [Value.cells] using hf⟩)
  simp only [Value.slice.injEq] at e0
  obtain ⟨rfl, rfl, rfl⟩ := e0
  obtain ⟨sa1, sl1, sc1, rfl⟩ := okWide_slice Try.underlying56 (hval 1 56 v1 rfl rfl)
  obtain ⟨a1, len1, cap1, z1, e1, w1⟩ := leaf_bools (Try.underlying56) (Try.underlying4) (by kernel_rfl) (by obtain ⟨fuel, hf⟩ := h1; exact ⟨fuel, _, by simpa [Value.cells] using hf⟩)
  simp only [Value.slice.injEq] at e1
  obtain ⟨rfl, rfl, rfl⟩ := e1
  obtain ⟨a2, rfl, rfl, rfl, w2⟩ := open_int Try.underlying21 (hval 2 21 v2 rfl rfl) h2
  clear hA0 hval0
  refine (law sa0 sl0 sc0 z0 sa1 sl1 sc1 z1 a2 W w0 w1 (bounds_i32 w2)).mono fun e W' ⟨he, bel⟩ => ?_
  subst he
  exact ⟨_, rfl, _, _, _, [], _, [], hW', trodAll_mk1 (shut_bool Try.underlying4 _), (trodAll_cons_mk (Below.trod laidOut (by kernel_rfl) (of_decide_eq_true (by kernel_rfl)) k0 bel lt0) (trodAll_cons_mk (Below.trod laidOut (by kernel_rfl) (of_decide_eq_true (by kernel_rfl)) k1 bel lt1) (trodAll_cons_mk (Below.trod laidOut (by kernel_rfl) (of_decide_eq_true (by kernel_rfl)) k2 bel lt2) trodAll_mk0))), rfl, bel.frame _, fun h => by cases h⟩
theorem over : Rows.voteFarRow.holds Try.pinned (OpenSpec.ofChange Rows.voteFarSpec) :=
  OpenClaim.holds_of_wide 8 Try.f8 rfl rfl rfl rfl rfl rfl rfl ⟨rfl, rfl, rfl, rfl, rfl⟩ rfl rfl rfl rfl rfl (by kernel_rfl) Try.func8 (by kernel_rfl)
    (of_decide_eq_true (by kernel_rfl)) (by unfold Func.isWrapper; first | (rw [if_pos (by decide +kernel)]; kernel_rfl) | (rw [if_neg (by decide +kernel)]; exact ⟨rfl, rfl⟩))
    (fun os started H enc _ => lifted os started H enc)
theorem proved : Rows.VoteFarSaid := over
#print axioms proved

end Go.Proofs.Ytijoalaijkobpaa.voteFar
