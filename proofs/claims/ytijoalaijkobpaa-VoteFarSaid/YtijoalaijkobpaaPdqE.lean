/- slices.pdqsortOrdered at int32: sorting what is nearly sorted, and the whole. -/
import Derived.Test.YtijoalaijkobpaaPdqB
import Derived.Test.YtijoalaijkobpaaPdqC
import Derived.Test.YtijoalaijkobpaaPdqD
namespace Go.Proofs.Ytijoalaijkobpaa
open Go.ChangeShapes Go.WideShapes Go.ChangeAt Go.RowKit
set_option linter.unusedVariables false

namespace S32
/-- what lies ahead of the range is no greater than what lies in it -/
def Low (M : List Int) (a e : Nat) : Prop := a = 0 ∨ ∀ k, a ≤ k → k < e → M.getD (a - 1) 0 ≤ M.getD k 0
theorem Low.sw {L M : List Int} {a e : Nat} (h : Low L a e) (hs : Sw a e L M) (hl : e ≤ L.length) : Low M a e := by
  rcases h with h | h
  · exact .inl h
  · by_cases a0 : a = 0
    · exact .inl a0
    · refine .inr (fun k k1 k2 => ?_)
      rw [hs.offD (a - 1) (.inl (by omega))]
      exact hs.all hl (fun x => L.getD (a - 1) 0 ≤ x) h k k1 k2
def PiRel (w0 : World) (b lo hi : Nat) (L : List Int) (x y : Value) (w : World) : Prop := ∃ (i j : Nat) (M : List Int), (lo + 1 ≤ i ∧ i ≤ hi ∧ j ≤ 5) ∧ x = .int .i64 i ∧ y = .int .i64 j ∧ Row w0 w b M ∧ Sw lo hi L M ∧ SortedOn M lo i
def PiRel1 (w0 : World) (b lo hi : Nat) (L : List Int) (x : Value) (w : World) : Prop := ∃ (i : Nat) (M : List Int), (lo + 1 ≤ i ∧ i ≤ hi) ∧ x = .int .i64 i ∧ Row w0 w b M ∧ Sw lo hi L M ∧ SortedOn M lo i
def PiRel1e (w0 : World) (b lo hi : Nat) (L : List Int) (x : Value) (w : World) : Prop := ∃ (i : Nat) (M : List Int), (lo + 1 ≤ i ∧ i ≤ hi) ∧ x = .int .i64 i ∧ Row w0 w b M ∧ Sw lo hi L M ∧ SortedOn M lo i ∧ (i < hi → M.getD i 0 < M.getD (i - 1) 0)
def PiRel2e (w0 : World) (b lo hi i : Nat) (L : List Int) (w : World) : Prop := ∃ (M : List Int), Row w0 w b M ∧ Sw lo hi L M ∧ SortedOn M lo i
def PiRel3 (w0 : World) (b lo hi i : Nat) (L : List Int) (x : Value) (w : World) : Prop := ∃ (j : Nat) (M : List Int), (i + 1 ≤ j ∧ j ≤ hi) ∧ x = .int .i64 j ∧ Row w0 w b M ∧ Sw lo hi L M ∧ SortedOn M lo i
def PiPost (w0 : World) (b lo hi : Nat) (L : List Int) (e : Ending) (w : World) : Prop := ∃ (f : Bool) (M : List Int), e = .returned (.bool f) ∧ Row w0 w b M ∧ Sw lo hi L M ∧ (f = true → SortedOn M lo hi)
theorem wrap_small (j : Nat) (h : j + 1 ≤ 5) : wrap64 ((j : Int) + 1) = ((j + 1 : Nat) : Int) := by
  simp only [wrap64]; omega
theorem wrap_meas (j : Nat) (h : j + 1 ≤ 5) : 6 - (intOf (.int .i64 ((j + 1 : Nat) : Int))).toNat < 6 - (intOf (.int .i64 (j : Int))).toNat := by
  simp only [intOf, Int.toNat_natCast]; omega
theorem sorted_more {M : List Int} {lo i : Nat} (h : SortedOn M lo i) (hi : lo + 1 ≤ i) (hle : M.getD (i - 1) 0 ≤ M.getD i 0) : SortedOn M lo (i + 1) := by
  intro p q h1 h2 h3
  by_cases e : q = i
  · subst e
    by_cases e2 : p = q - 1
    · subst e2; exact hle
    · exact Int.le_trans (h p (q - 1) h1 (by omega) (by omega)) hle
  · exact h p q h1 h2 (by omega)
theorem sorted_swap {M : List Int} {lo i x y : Nat} (h : SortedOn M lo i) (hx : i ≤ x) (hy : i ≤ y) (hx' : x < M.length) (hy' : y < M.length) : SortedOn (swapL M x y) lo i := by
  intro p q h1 h2 h3
  rw [swapL_at _ _ _ _ hx' hy', swapL_at _ _ _ _ hx' hy', if_neg (by omega), if_neg (by omega), if_neg (by omega), if_neg (by omega)]
  exact h p q h1 h2 h3
theorem sorted_mono {M : List Int} {lo i j : Nat} (h : SortedOn M lo i) (hj : j ≤ i) : SortedOn M lo j := fun p q h1 h2 h3 => h p q h1 h2 (by omega)
set_option maxHeartbeats 8000000 in
set_option maxRecDepth 100000 in
theorem partial_is (b cap lo hi : Nat) (L : List Int) (w : World) (hL : L.length ≤ 64) (h : CellsAt w b (vals L)) (hlh : lo + 12 < hi) (hhi : hi ≤ L.length) (hlow : Low L lo hi) :
    Calls Try.prog 48 #[.slice (some ⟨b, 0, none⟩) L.length cap, .int .i64 lo, .int .i64 hi] w (PiPost w b lo hi L) := by
  have HS := Lib.hid (Row.start h)
  have HLW := Lib.hid hlow
  clear h hlow
  go_enter Try.func48, Try.ntmps48
  go_wp2
  go_loopw [7, 8] (fun x y wr => PiRel w b lo hi L x y wr) (fun _ y _ => 6 - (intOf y).toNat)
  case atStart => exact ⟨lo + 1, 0, L, ⟨by omega, by omega, by omega⟩, by go_num, rfl, HS.out, .refl, fun p q h1 h2 h3 => by omega⟩
  case round =>
    obtain ⟨i, j, M, ⟨hi1, hi2, hj⟩, rfl, rfl, hR, hS, hO⟩ := hrel
    clear HS
    have HR := Lib.hid hR; have HSW := Lib.hid hS; have HO := Lib.hid hO
    clear hR hS hO
    by_cases hj5 : j < 5
    · have HJ5 := Lib.hid (show j + 1 ≤ 5 by omega)
      have hd5 : decide ((j : Int) < 5) = true := decide_eq_true (by omega)
      clear hj5 hj
      go_upto_block 2 with (fail)
      clear hd5
      go_cut [7] (fun x wx => PiRel1e w b lo hi L x wx)
      case first =>
        go_wp2_with fail
        go_loopw [7] (fun x wx => PiRel1 w b lo hi L x wx) (fun x _ => hi + 1 - (intOf x).toNat)
        case atStart => exact ⟨i, M, ⟨hi1, hi2⟩, rfl, HR.out, HSW.out, HO.out⟩
        case round =>
          obtain ⟨i, M, ⟨hi1, hi2⟩, rfl, hR, hS, hO⟩ := hrel
          clear HR HSW HO
          have HR := Lib.hid hR; have HSW := Lib.hid hS; have HO := Lib.hid hO
          have hml := hS.len
          have HML := Lib.hid hml
          clear hR hS hO hml
          by_cases hlt : i < hi
          · have c1 := val_cell HR.out.c i (by have := HML.out; omega)
            have c2 := val_cell HR.out.c (i - 1) (by have := HML.out; omega)
            obtain ⟨x, hx⟩ : ∃ x, M.getD i 0 = x := ⟨_, rfl⟩
            obtain ⟨y, hy⟩ : ∃ y, M.getD (i - 1) 0 = y := ⟨_, rfl⟩
            rw [hx] at c1
            rw [hy] at c2
            have HX := Lib.hid hx; have HY := Lib.hid hy
            have g1 : IntKind.i64.wrap ((i : Int) - 1) = (i : Int) - 1 := IntWalk.i64_in _ (by omega)
            have g3 : ((i : Int) - 1).toNat = i - 1 := by omega
            have g4 : (i : Int) - 1 < (L.length : Int) := by omega
            have g5 : (i : Int) < (L.length : Int) := by omega
            have g6 : (0 : Int) ≤ (i : Int) - 1 := by omega
            clear hx hy
            by_cases hxy : x < y
            · have hd : decide (x < y) = true := decide_eq_true hxy
              go_wp2
              go_quiet ((go_at_call 49; exact quietL (less x y _)))
              go_wp2
              go_meet
              exact ⟨i, M, ⟨hi1, hi2⟩, rfl, HR.out.drewN _, HSW.out, HO.out, fun _ => by rw [HX.out, HY.out]; exact hxy⟩
            · have hd : decide (x < y) = false := decide_eq_false hxy
              go_wp2
              go_quiet ((go_at_call 49; exact quietL (less x y _)))
              go_wp2
              go_roundw
              case rel => exact ⟨i + 1, M, ⟨by omega, by omega⟩, by go_num, HR.out.drewN _, HSW.out, sorted_more HO.out hi1 (by rw [HX.out, HY.out]; omega)⟩
              case measure => first | (simp [intOf]; done) | (simp [intOf]; omega) | (rw [wrap_small j HJ5.out]; exact wrap_meas j HJ5.out)
          · go_wp2
            go_region
            go_wp2
            go_meet
            exact ⟨i, M, ⟨hi1, hi2⟩, rfl, by first | exact HR.out.drew | exact HR.out, HSW.out, HO.out, fun h => absurd h hlt⟩
      case rest =>
        obtain ⟨i, M, ⟨hi1, hi2⟩, rfl, hR, hS, hO, hX⟩ := hcut
        clear HR HSW HO
        have HR := Lib.hid hR; have HSW := Lib.hid hS; have HO := Lib.hid hO; have HLT := Lib.hid hX
        have hml := hS.len
        have HML := Lib.hid hml
        clear hR hS hO hX hml
        by_cases hih : i = hi
        · subst hih
          go_wp2
          go_ret
          exact ⟨true, M, rfl, HR.out, HSW.out, fun _ => HO.out⟩
        · have hlt : i < hi := by omega
          have he : ((i : Int) == (hi : Int)) = false := by simp; omega
          by_cases h50 : hi - lo < 50
          · have h50' : (hi : Int) - (lo : Int) < 50 := by omega
            go_wp2
            go_ret
            exact ⟨false, M, rfl, HR.out, HSW.out, fun h => by cases h⟩
          · have h50' : (50 : Int) ≤ (hi : Int) - (lo : Int) := by omega
            have c1 := val_cell HR.out.c i (by have := HML.out; omega)
            have c2 := val_cell HR.out.c (i - 1) (by have := HML.out; omega)
            obtain ⟨x, hx⟩ : ∃ x, M.getD i 0 = x := ⟨_, rfl⟩
            obtain ⟨y, hy⟩ : ∃ y, M.getD (i - 1) 0 = y := ⟨_, rfl⟩
            rw [hx] at c1
            rw [hy] at c2
            have HX := Lib.hid hx; have HY := Lib.hid hy
            have g1 : IntKind.i64.wrap ((i : Int) - 1) = (i : Int) - 1 := IntWalk.i64_in _ (by omega)
            have g3 : ((i : Int) - 1).toNat = i - 1 := by omega
            have g4 : (i : Int) - 1 < (L.length : Int) := by omega
            have g5 : (i : Int) < (L.length : Int) := by omega
            have g6 : (0 : Int) ≤ (i : Int) - 1 := by omega
            have cz := set_reads c1 c2
            have hff := HR.out.c.2.1
            have hfb := HR.out.c.lt
            have HR4 := Lib.hid (HR.out.set2 i (i - 1) (by have := HML.out; omega) (by have := HML.out; omega) x y HX.out HY.out)
            have HS4 := Lib.hid (HSW.out.step i (i - 1) (by omega) (by omega) (by omega) (by omega))
            have HO4 : Hid (SortedOn (swapL M i (i - 1)) lo (i - 1)) := sorted_swap (sorted_mono HO.out (by omega)) (by omega) (Nat.le_refl _) (by have := HML.out; omega) (by have := HML.out; omega)
            clear hx hy
            go_upto_region 11 with (fail)
            go_region
            have HR5 : Hid (Row w _ b (swapL M i (i - 1))) := (by first | exact HR4.out.drew | exact HR4.out : Row w _ b (swapL M i (i - 1)))
            clear HR HSW HR4 c1 c2 cz hff hfb g1 g3 g4 g5 g6 HX HY HLT
            have HL1 : Hid ((swapL M i (i - 1)).length = L.length) := HS4.out.len
            obtain ⟨N, hN⟩ : ∃ N, swapL M i (i - 1) = N := ⟨_, rfl⟩
            rw [hN] at HR5 HS4 HO4 HL1
            go_upto_if 61 with (fail)
            go_cut [7] (fun x wx => x = .int .i64 i ∧ PiRel2e w b lo hi i L wx)
            case first =>
              by_cases hi2 : lo + 2 ≤ i
              · have hge : (2 : Int) ≤ (i : Int) - (lo : Int) := by omega
                obtain ⟨i1, hi1'⟩ : ∃ i1, i = i1 + 1 := ⟨i - 1, by omega⟩
                have HI1 := Lib.hid (show (i : Int) - 1 = (i1 : Int) by omega)
                have HI1' := Lib.hid hi1'
                have HINS : Hid (Ins N lo i1 i1) := Ins.start (by have := HO4.out; rwa [hi1'] at this)
                clear hN hi1'
                go_upto_region 14 with (fail)
                rw [HI1.out]
                go_wp2_with fail
                go_loopw [9] (fun x wr => InsRel2 w b lo hi i1 L x wr) (fun x _ => (intOf x).toNat)
                case atStart => exact ⟨i1, N, by have := HI1'.out; omega, Nat.le_refl _, rfl, HR5.out, HS4.out, HINS.out⟩
                case round =>
                  obtain ⟨j2, M2, hj1, hj2, rfl, hR, hS, hO⟩ := hrel
                  clear HR5 HS4 HINS HO4 HL1
                  have HR := Lib.hid hR; have HSW := Lib.hid hS; have HO := Lib.hid hO
                  have hml2 := hS.len
                  have HML2 := Lib.hid hml2
                  have HLW2 := Lib.hid (HLW.out.sw hS hhi)
                  have HIB := Lib.hid (show i1 < hi by have := HI1'.out; omega)
                  clear hR hS hO hml2
                  by_cases hj0 : 1 ≤ j2
                  · have c1 := val_cell HR.out.c j2 (by have := HML2.out; have := HIB.out; omega)
                    have c2 := val_cell HR.out.c (j2 - 1) (by have := HML2.out; have := HIB.out; omega)
                    obtain ⟨x, hx⟩ : ∃ x, M2.getD j2 0 = x := ⟨_, rfl⟩
                    obtain ⟨y, hy⟩ : ∃ y, M2.getD (j2 - 1) 0 = y := ⟨_, rfl⟩
                    rw [hx] at c1
                    rw [hy] at c2
                    have HX := Lib.hid hx; have HY := Lib.hid hy
                    have hjl : j2 < L.length := by have := HIB.out; omega
                    have g1 : IntKind.i64.wrap ((j2 : Int) - 1) = (j2 : Int) - 1 := IntWalk.i64_in _ (by omega)
                    have g2 : (1 : Int) ≤ (j2 : Int) := by omega
                    have g3 : ((j2 : Int) - 1).toNat = j2 - 1 := by omega
                    have g4 : (j2 : Int) - 1 < (L.length : Int) := by omega
                    have g5 : (j2 : Int) < (L.length : Int) := by omega
                    have g6 : (0 : Int) ≤ (j2 : Int) - 1 := by omega
                    have cz := set_reads c1 c2
                    have hff := HR.out.c.2.1
                    have hfb := HR.out.c.lt
                    clear hx hy
                    by_cases hxy : x < y
                    · have hd : decide (x < y) = true := decide_eq_true hxy
                      have HLO : Hid (lo < j2) := by
                        refine Nat.lt_of_le_of_ne hj1 (fun e => ?_)
                        subst e
                        have e1 := HX.out; have e2 := HY.out
                        rcases HLW2.out with h0 | h0
                        · omega
                        · have := h0 lo (Nat.le_refl _) (by omega)
                          omega
                      go_wp2_with fail
                      go_quiet ((go_at_call 49; exact quietL (less x y _)))
                      go_wp2
                      go_region
                      go_wp2
                      go_roundw
                      case rel => exact ⟨j2 - 1, swapL M2 j2 (j2 - 1), by have := HLO.out; omega, by omega, by first | go_num | (congr 1; omega), by first | exact ((HR.out.drewN _).set2 j2 (j2 - 1) (by have := HML2.out; omega) (by have := HML2.out; omega) x y HX.out HY.out) | exact ((HR.out.drewN _).set2 j2 (j2 - 1) (by have := HML2.out; omega) (by have := HML2.out; omega) x y HX.out HY.out).drew, HSW.out.step j2 (j2 - 1) (by omega) (by have := HIB.out; omega) (by have := HLO.out; omega) (by have := HIB.out; omega), HO.out.swap HLO.out hj2 (by have := HML2.out; have := HIB.out; omega) (by rw [HX.out, HY.out]; exact hxy)⟩
                      case measure => first | (simp [intOf]; done) | (simp [intOf]; omega) | (rw [wrap_small j HJ5.out]; exact wrap_meas j HJ5.out)
                    · have hd : decide (x < y) = false := decide_eq_false hxy
                      go_wp2_with fail
                      go_quiet ((go_at_call 49; exact quietL (less x y _)))
                      go_wp2
                      go_meet
                      exact ⟨rfl, M2, HR.out.drewN _, HSW.out, by rw [HI1'.out]; exact HO.out.fin hj1 (.inr (by rw [HX.out, HY.out]; omega))⟩
                  · obtain rfl : j2 = 0 := by omega
                    obtain rfl : lo = 0 := by omega
                    go_wp2
                    go_meet
                    exact ⟨rfl, M2, HR.out, HSW.out, by rw [HI1'.out]; exact HO.out.fin hj1 (.inl rfl)⟩
              · have hlt2 : (i : Int) - (lo : Int) < 2 := by omega
                go_wp2
                go_meet
                exact ⟨rfl, N, HR5.out, HS4.out, fun p q h1 h2 h3 => by omega⟩
            case rest =>
              obtain ⟨rfl, M, hR, hS, hO⟩ := hcut
              clear HR5 HS4 HO4 HL1 hN HML HO
              have HR := Lib.hid hR; have HSW := Lib.hid hS; have HO := Lib.hid hO
              clear hR hS hO
              by_cases hi2 : i + 2 ≤ hi
              · have hge : (2 : Int) ≤ (hi : Int) - (i : Int) := by omega
                go_wp2_with fail
                go_loopw [10] (fun x wr => PiRel3 w b lo hi i L x wr) (fun x _ => hi + 1 - (intOf x).toNat)
                case atStart => exact ⟨i + 1, M, ⟨Nat.le_refl _, by omega⟩, by go_num, HR.out, HSW.out, HO.out⟩
                case round =>
                  obtain ⟨j2, M2, ⟨hj1, hj2⟩, rfl, hR, hS, hO⟩ := hrel
                  clear HR HSW HO
                  have HR := Lib.hid hR; have HSW := Lib.hid hS; have HO := Lib.hid hO
                  have hml2 := hS.len
                  have HML2 := Lib.hid hml2
                  clear hR hS hO hml2
                  by_cases hj0 : j2 < hi
                  · have c1 := val_cell HR.out.c j2 (by have := HML2.out; omega)
                    have c2 := val_cell HR.out.c (j2 - 1) (by have := HML2.out; omega)
                    obtain ⟨x, hx⟩ : ∃ x, M2.getD j2 0 = x := ⟨_, rfl⟩
                    obtain ⟨y, hy⟩ : ∃ y, M2.getD (j2 - 1) 0 = y := ⟨_, rfl⟩
                    rw [hx] at c1
                    rw [hy] at c2
                    have HX := Lib.hid hx; have HY := Lib.hid hy
                    have g1 : IntKind.i64.wrap ((j2 : Int) - 1) = (j2 : Int) - 1 := IntWalk.i64_in _ (by omega)
                    have g3 : ((j2 : Int) - 1).toNat = j2 - 1 := by omega
                    have g4 : (j2 : Int) - 1 < (L.length : Int) := by omega
                    have g5 : (j2 : Int) < (L.length : Int) := by omega
                    have g6 : (0 : Int) ≤ (j2 : Int) - 1 := by omega
                    have cz := set_reads c1 c2
                    have hff := HR.out.c.2.1
                    have hfb := HR.out.c.lt
                    clear hx hy
                    by_cases hxy : x < y
                    · have hd : decide (x < y) = true := decide_eq_true hxy
                      go_wp2_with fail
                      go_quiet ((go_at_call 49; exact quietL (less x y _)))
                      go_wp2
                      go_region
                      go_wp2
                      go_roundw
                      case rel => exact ⟨j2 + 1, swapL M2 j2 (j2 - 1), ⟨by omega, by omega⟩, by go_num, by first | exact ((HR.out.drewN _).set2 j2 (j2 - 1) (by have := HML2.out; omega) (by have := HML2.out; omega) x y HX.out HY.out) | exact ((HR.out.drewN _).set2 j2 (j2 - 1) (by have := HML2.out; omega) (by have := HML2.out; omega) x y HX.out HY.out).drew, HSW.out.step j2 (j2 - 1) (by omega) (by omega) (by omega) (by omega), sorted_swap HO.out (by omega) (by omega) (by have := HML2.out; omega) (by have := HML2.out; omega)⟩
                      case measure => first | (simp [intOf]; done) | (simp [intOf]; omega) | (rw [wrap_small j HJ5.out]; exact wrap_meas j HJ5.out)
                    · have hd : decide (x < y) = false := decide_eq_false hxy
                      go_wp2_with fail
                      go_quiet ((go_at_call 49; exact quietL (less x y _)))
                      go_wp2
                      go_roundw
                      case rel => exact ⟨i, j + 1, M2, ⟨hi1, by omega, by have := HJ5.out; omega⟩, rfl, by rw [wrap_small j HJ5.out], HR.out.drewN _, HSW.out, HO.out⟩
                      case measure => first | (simp [intOf]; done) | (simp [intOf]; omega) | (rw [wrap_small j HJ5.out]; exact wrap_meas j HJ5.out)
                  · obtain rfl : j2 = hi := by omega
                    go_wp2
                    go_roundw
                    case rel => exact ⟨i, j + 1, M2, ⟨hi1, by omega, by have := HJ5.out; omega⟩, rfl, by rw [wrap_small j HJ5.out], HR.out, HSW.out, HO.out⟩
                    case measure => first | (simp [intOf]; done) | (simp [intOf]; omega) | (rw [wrap_small j HJ5.out]; exact wrap_meas j HJ5.out)
              · have hlt2 : (hi : Int) - (i : Int) < 2 := by omega
                go_wp2
                go_roundw
                case rel => exact ⟨i, j + 1, M, ⟨hi1, by omega, by have := HJ5.out; omega⟩, rfl, by rw [wrap_small j HJ5.out], HR.out, HSW.out, HO.out⟩
                case measure => first | (simp [intOf]; done) | (simp [intOf]; omega) | (rw [wrap_small j HJ5.out]; exact wrap_meas j HJ5.out)
    · go_wp2
      go_ret
      exact ⟨false, M, rfl, HR.out, HSW.out, fun h => by cases h⟩
end S32

end Go.Proofs.Ytijoalaijkobpaa
