/- slices.pdqsortOrdered's helpers at int32: sorting by a heap. -/
import Derived.Test.YtijoalaijkobpaaPdqA
namespace Go.Proofs.Ytijoalaijkobpaa
open Go.ChangeShapes Go.WideShapes Go.ChangeAt Go.RowKit
set_option linter.unusedVariables false

namespace S32
def Kid (k c : Nat) : Prop := c = 2 * k + 1 ∨ c = 2 * k + 2
def Heap (f lo hi : Nat) (M : List Int) : Prop := ∀ k c, lo ≤ k → Kid k c → c < hi → M.getD (f + c) 0 ≤ M.getD (f + k) 0
/-- a heap but for the number that sinks -/
structure Sift (f lo hi : Nat) (M : List Int) (r : Nat) : Prop where
  lr : lo ≤ r
  heap : ∀ k c, lo ≤ k → k ≠ r → Kid k c → c < hi → M.getD (f + c) 0 ≤ M.getD (f + k) 0
  up : ∀ k c, lo ≤ k → Kid k r → Kid r c → c < hi → M.getD (f + c) 0 ≤ M.getD (f + k) 0
theorem Sift.start {f lo hi : Nat} {M : List Int} (h : Heap f (lo + 1) hi M) : Sift f lo hi M lo :=
  ⟨Nat.le_refl _, fun k c h1 h2 h3 h4 => h k c (by omega) h3 h4, fun k c h1 h2 h3 h4 => by unfold Kid at h2; omega⟩
theorem Sift.fin {f lo hi : Nat} {M : List Int} {r : Nat} (h : Sift f lo hi M r) (hr : ∀ c, Kid r c → c < hi → M.getD (f + c) 0 ≤ M.getD (f + r) 0) : Heap f lo hi M := by
  intro k c h1 h2 h3
  by_cases e : k = r
  · subst e; exact hr c h2 h3
  · exact h.heap k c h1 e h2 h3
theorem Sift.step {f lo hi : Nat} {M : List Int} {r c : Nat} (h : Sift f lo hi M r) (hl : f + hi ≤ M.length) (hc : Kid r c) (hch : c < hi) (hlt : M.getD (f + r) 0 < M.getD (f + c) 0) (hbig : ∀ d, Kid r d → d < hi → M.getD (f + d) 0 ≤ M.getD (f + c) 0) : Sift f lo hi (swapL M (f + r) (f + c)) c := by
  have hrc : r < c := by unfold Kid at hc; omega
  have g := fun k => swapL_at M (f + r) (f + c) (f + k) (by omega) (by omega)
  have gr : (swapL M (f + r) (f + c)).getD (f + r) 0 = M.getD (f + c) 0 := by rw [g, if_neg (by omega), if_pos rfl]
  have gc : (swapL M (f + r) (f + c)).getD (f + c) 0 = M.getD (f + r) 0 := by rw [g, if_pos rfl]
  have go : ∀ k, k ≠ r → k ≠ c → (swapL M (f + r) (f + c)).getD (f + k) 0 = M.getD (f + k) 0 := fun k h1 h2 => by rw [g, if_neg (by omega), if_neg (by omega)]
  have lr := h.lr
  refine ⟨by omega, fun k d h1 h2 h3 h4 => ?_, fun k d h1 h2 h3 h4 => ?_⟩
  · by_cases k1 : k = r
    · subst k1
      rw [gr]
      by_cases d1 : d = c
      · subst d1; rw [gc]; omega
      · rw [go d (by unfold Kid at h3; omega) d1]; exact hbig d h3 h4
    · rw [go k k1 h2]
      by_cases d1 : d = r
      · subst d1; rw [gr]; exact h.up k c h1 h3 hc hch
      · by_cases d2 : d = c
        · exfalso; subst d2; unfold Kid at h3 hc; omega
        · rw [go d d1 d2]; exact h.heap k d h1 k1 h3 h4
  · have k1 : k = r := by unfold Kid at h2 hc; omega
    subst k1
    rw [gr, go d (by unfold Kid at h3; omega) (by unfold Kid at h3; omega)]
    exact h.heap c d (by omega) (by omega) h3 h4
theorem big0 {f r c hi : Nat} {M : List Int} (hc : c = 2 * r + 1) (h : hi ≤ c + 1) : ∀ d, Kid r d → d < hi → M.getD (f + d) 0 ≤ M.getD (f + c) 0 := by
  intro d h1 h2
  unfold Kid at h1
  obtain rfl : d = c := by omega
  exact Int.le_refl _
theorem big1 {f r c c1 hi : Nat} {M : List Int} {y z : Int} (hc : c = 2 * r + 1) (hc1 : c1 = c + 1) (hy : M.getD (f + c) 0 = y) (hz : M.getD (f + c1) 0 = z) (h : y < z) : ∀ d, Kid r d → d < hi → M.getD (f + d) 0 ≤ M.getD (f + c1) 0 := by
  intro d h1 h2
  unfold Kid at h1
  by_cases e : d = c
  · subst e; rw [hy, hz]; omega
  · obtain rfl : d = c1 := by omega
    exact Int.le_refl _
theorem big2 {f r c c1 hi : Nat} {M : List Int} {y z : Int} (hc : c = 2 * r + 1) (hc1 : c1 = c + 1) (hy : M.getD (f + c) 0 = y) (hz : M.getD (f + c1) 0 = z) (h : ¬ y < z) : ∀ d, Kid r d → d < hi → M.getD (f + d) 0 ≤ M.getD (f + c) 0 := by
  intro d h1 h2
  unfold Kid at h1
  by_cases e : d = c1
  · subst e; rw [hy, hz]; omega
  · obtain rfl : d = c := by omega
    exact Int.le_refl _
def SRel (w0 : World) (b f lo hi : Nat) (L : List Int) (x : Value) (w : World) : Prop := ∃ (r : Nat) (M : List Int), (r ≤ hi ∧ f + r < L.length) ∧ x = .int .i64 r ∧ Row w0 w b M ∧ Sw (f + lo) (f + hi) L M ∧ Sift f lo hi M r
def SPost (w0 : World) (b f lo hi : Nat) (L : List Int) (e : Ending) (w : World) : Prop := e = .returned (.tuple #[]) ∧ ∃ M, Row w0 w b M ∧ Sw (f + lo) (f + hi) L M ∧ Heap f lo hi M
theorem SPost.mk {w0 w : World} {b f lo hi : Nat} {L M : List Int} (h1 : Row w0 w b M) (h2 : Sw (f + lo) (f + hi) L M) (h3 : Heap f lo hi M) : SPost w0 b f lo hi L (.returned (.tuple #[])) w := ⟨rfl, M, h1, h2, h3⟩
set_option maxHeartbeats 8000000 in
set_option maxRecDepth 100000 in
theorem siftDown_is (b cap f lo hi : Nat) (L : List Int) (w : World) (hL : L.length ≤ 64) (h : CellsAt w b (vals L)) (hlh : lo ≤ hi) (hf0 : f + lo < L.length) (hf : f + hi ≤ L.length) (hh : Heap f (lo + 1) hi L) :
    Calls Try.prog 54 #[.slice (some ⟨b, 0, none⟩) L.length cap, .int .i64 lo, .int .i64 hi, .int .i64 f] w (SPost w b f lo hi L) := by
  have HS := Lib.hid (Row.start h)
  have HH := Lib.hid (Sift.start hh)
  clear h hh
  go_enter Try.func54, Try.ntmps54
  go_wp2
  go_loopw [8] (fun x wr => SRel w b f lo hi L x wr) (fun x _ => hi - (intOf x).toNat)
  case atStart => exact ⟨lo, L, ⟨hlh, hf0⟩, rfl, HS.out, .refl, HH.out⟩
  case round =>
    obtain ⟨r, M, ⟨hrh, hrl⟩, rfl, hR, hS, hT⟩ := hrel
    have HR := Lib.hid hR; have HSW := Lib.hid hS; have HT := Lib.hid hT
    have hml := hS.len
    have HML := Lib.hid hml
    have hlr := hT.lr
    clear hR hS hT hml HS HH
    obtain ⟨c, hc⟩ : ∃ c : Nat, c = 2 * r + 1 := ⟨_, rfl⟩
    have hcI : 2 * (r : Int) + 1 = (c : Int) := by omega
    have HC := Lib.hid hc; have HCI := Lib.hid hcI
    have hrc : r < c := by omega
    clear hc hcI
    have q1 := val_cell HR.out.c (f + r) (by have := HML.out; omega)
    have hff := HR.out.c.2.1
    have hfb := HR.out.c.lt
    obtain ⟨x, hx⟩ : ∃ x, M.getD (f + r) 0 = x := ⟨_, rfl⟩
    rw [hx] at q1
    have HX := Lib.hid hx
    clear hx
    have e1 : IntKind.i64.wrap ((f : Int) + (r : Int)) = (f : Int) + (r : Int) := IntWalk.i64_in _ (by omega)
    have e2 : ((f : Int) + (r : Int)).toNat = f + r := by omega
    have e3 : (f : Int) + (r : Int) < (L.length : Int) := by omega
    have e4 : (0 : Int) ≤ (f : Int) + (r : Int) := by omega
    go_upto_region 2 with (fail)
    rw [HCI.out]
    by_cases hch : c < hi
    · have q2 := val_cell HR.out.c (f + c) (by have := HML.out; omega)
      obtain ⟨y, hy⟩ : ∃ y, M.getD (f + c) 0 = y := ⟨_, rfl⟩
      rw [hy] at q2
      have HY := Lib.hid hy
      clear hy
      by_cases hch2 : c + 1 < hi
      · obtain ⟨c1, hc1⟩ : ∃ c1, c1 = c + 1 := ⟨_, rfl⟩
        have q3 := val_cell HR.out.c (f + c1) (by have := HML.out; omega)
        obtain ⟨z, hz⟩ : ∃ z, M.getD (f + c1) 0 = z := ⟨_, rfl⟩
        rw [hz] at q3
        have HZ := Lib.hid hz
        have hcc : (c : Int) + 1 = (c1 : Int) := by omega
        have HCC := Lib.hid hcc
        have f1 : IntKind.i64.wrap ((c : Int) + 1) = (c : Int) + 1 := IntWalk.i64_in _ (by omega)
        have f2 : IntKind.i64.wrap ((f : Int) + (c : Int)) = (f : Int) + (c : Int) := IntWalk.i64_in _ (by omega)
        have f3 : ((f : Int) + (c : Int)).toNat = f + c := by omega
        have f4 : (f : Int) + (c : Int) < (L.length : Int) := by omega
        have f5 : (0 : Int) ≤ (f : Int) + (c : Int) := by omega
        have f6 : IntKind.i64.wrap ((f : Int) + (c : Int) + 1) = (f : Int) + (c : Int) + 1 := IntWalk.i64_in _ (by omega)
        have f7 : ((f : Int) + (c : Int) + 1).toNat = f + c1 := by omega
        have f8 : (f : Int) + (c : Int) + 1 < (L.length : Int) := by omega
        have f9 : (0 : Int) ≤ (f : Int) + (c : Int) + 1 := by omega
        have f10 : (c : Int) + 1 < (hi : Int) := by omega
        have HC1 := Lib.hid hc1
        clear hz hcc hc1
        by_cases hyz : y < z
        · have hd0 : decide (y < z) = true := decide_eq_true hyz
          go_wp2
          go_quiet ((go_at_call 49; exact quietL (less y z _)))
          go_upto_region 5 with (fail)
          rw [HCC.out]
          clear f1 f2 f3 f4 f5 f6 f7 f8 f9 f10
          have hc1 : c1 < hi := by have := HCC.out; omega
          have hrc1 : r < c1 := by have := HCC.out; omega
          have e5 : IntKind.i64.wrap ((f : Int) + (c1 : Int)) = (f : Int) + (c1 : Int) := IntWalk.i64_in _ (by omega)
          have e6 : ((f : Int) + (c1 : Int)).toNat = f + c1 := by omega
          have e7 : (f : Int) + (c1 : Int) < (L.length : Int) := by omega
          have e8 : (0 : Int) ≤ (f : Int) + (c1 : Int) := by omega
          have cz := set_reads q1 q3
          by_cases hxy : x < z
          · have hd : decide (x < z) = true := decide_eq_true hxy
            go_quiet ((go_at_call 49; first | exact quietL2 (less x z _) | exact quietL (less x z _)))
            go_wp2
            go_region
            go_wp2
            go_round
            case rel => exact ⟨c1, swapL M (f + r) (f + c1), ⟨by omega, by omega⟩, rfl, by first | exact ((HR.out.drewN _).set2 (f + r) (f + c1) (by have := HML.out; omega) (by have := HML.out; omega) x z HX.out HZ.out).drew | exact ((HR.out.drewN _).set2 (f + r) (f + c1) (by have := HML.out; omega) (by have := HML.out; omega) x z HX.out HZ.out) | exact ((HR.out.drew.drewN _).set2 (f + r) (f + c1) (by have := HML.out; omega) (by have := HML.out; omega) x z HX.out HZ.out).drew | exact ((HR.out.drew.drewN _).set2 (f + r) (f + c1) (by have := HML.out; omega) (by have := HML.out; omega) x z HX.out HZ.out), HSW.out.step (f + r) (f + c1) (by omega) (by omega) (by omega) (by omega), HT.out.step (by have := HML.out; omega) (by have := HC.out; have := HCC.out; unfold Kid; omega) (by omega) (by rw [HX.out, HZ.out]; exact hxy) (big1 HC.out HC1.out HY.out HZ.out hyz)⟩
            case measure => first | (simp [intOf]; done) | (simp [intOf]; omega)
          · have hd : decide (x < z) = false := decide_eq_false hxy
            go_quiet ((go_at_call 49; first | exact quietL2 (less x z _) | exact quietL (less x z _)))
            go_wp2
            go_end0
            exact SPost.mk (by first | exact HR.out.drewN _ | exact HR.out.drew.drewN _) HSW.out (HT.out.fin (fun d h1 h2 => Int.le_trans ((show ∀ d, Kid r d → d < hi → M.getD (f + d) 0 ≤ M.getD (f + c1) 0 from big1 HC.out HC1.out HY.out HZ.out hyz) d h1 h2) (by rw [HX.out, HZ.out]; omega)))
        · have hd0 : decide (y < z) = false := decide_eq_false hyz
          go_wp2
          go_quiet ((go_at_call 49; exact quietL (less y z _)))
          go_upto_region 5 with (fail)
          clear f1 f2 f3 f4 f5 f6 f7 f8 f9 f10
          have e5 : IntKind.i64.wrap ((f : Int) + (c : Int)) = (f : Int) + (c : Int) := IntWalk.i64_in _ (by omega)
          have e6 : ((f : Int) + (c : Int)).toNat = f + c := by omega
          have e7 : (f : Int) + (c : Int) < (L.length : Int) := by omega
          have e8 : (0 : Int) ≤ (f : Int) + (c : Int) := by omega
          have cz := set_reads q1 q2
          by_cases hxy : x < y
          · have hd : decide (x < y) = true := decide_eq_true hxy
            go_quiet ((go_at_call 49; first | exact quietL2 (less x y _) | exact quietL (less x y _)))
            go_wp2
            go_region
            go_wp2
            go_round
            case rel => exact ⟨c, swapL M (f + r) (f + c), ⟨by omega, by omega⟩, rfl, by first | exact ((HR.out.drewN _).set2 (f + r) (f + c) (by have := HML.out; omega) (by have := HML.out; omega) x y HX.out HY.out).drew | exact ((HR.out.drewN _).set2 (f + r) (f + c) (by have := HML.out; omega) (by have := HML.out; omega) x y HX.out HY.out) | exact ((HR.out.drew.drewN _).set2 (f + r) (f + c) (by have := HML.out; omega) (by have := HML.out; omega) x y HX.out HY.out).drew | exact ((HR.out.drew.drewN _).set2 (f + r) (f + c) (by have := HML.out; omega) (by have := HML.out; omega) x y HX.out HY.out), HSW.out.step (f + r) (f + c) (by omega) (by omega) (by omega) (by omega), HT.out.step (by have := HML.out; omega) (by have := HC.out; unfold Kid; omega) (by omega) (by rw [HX.out, HY.out]; exact hxy) (big2 HC.out HC1.out HY.out HZ.out (by omega))⟩
            case measure => first | (simp [intOf]; done) | (simp [intOf]; omega)
          · have hd : decide (x < y) = false := decide_eq_false hxy
            go_quiet ((go_at_call 49; first | exact quietL2 (less x y _) | exact quietL (less x y _)))
            go_wp2
            go_end0
            exact SPost.mk (by first | exact HR.out.drewN _ | exact HR.out.drew.drewN _) HSW.out (HT.out.fin (fun d h1 h2 => Int.le_trans ((show ∀ d, Kid r d → d < hi → M.getD (f + d) 0 ≤ M.getD (f + c) 0 from big2 HC.out HC1.out HY.out HZ.out (by omega)) d h1 h2) (by rw [HX.out, HY.out]; omega)))
      · have f10 : decide ((c : Int) + 1 < (hi : Int)) = false := decide_eq_false (by omega)
        go_wp2
        go_region
        go_upto_region 5 with (fail)
        clear f10
        have e5 : IntKind.i64.wrap ((f : Int) + (c : Int)) = (f : Int) + (c : Int) := IntWalk.i64_in _ (by omega)
        have e6 : ((f : Int) + (c : Int)).toNat = f + c := by omega
        have e7 : (f : Int) + (c : Int) < (L.length : Int) := by omega
        have e8 : (0 : Int) ≤ (f : Int) + (c : Int) := by omega
        have cz := set_reads q1 q2
        by_cases hxy : x < y
        · have hd : decide (x < y) = true := decide_eq_true hxy
          go_quiet ((go_at_call 49; first | exact quietL2 (less x y _) | exact quietL (less x y _)))
          go_wp2
          go_region
          go_wp2
          go_round
          case rel => exact ⟨c, swapL M (f + r) (f + c), ⟨by omega, by omega⟩, rfl, by first | exact ((HR.out.drewN _).set2 (f + r) (f + c) (by have := HML.out; omega) (by have := HML.out; omega) x y HX.out HY.out).drew | exact ((HR.out.drewN _).set2 (f + r) (f + c) (by have := HML.out; omega) (by have := HML.out; omega) x y HX.out HY.out) | exact ((HR.out.drew.drewN _).set2 (f + r) (f + c) (by have := HML.out; omega) (by have := HML.out; omega) x y HX.out HY.out).drew | exact ((HR.out.drew.drewN _).set2 (f + r) (f + c) (by have := HML.out; omega) (by have := HML.out; omega) x y HX.out HY.out), HSW.out.step (f + r) (f + c) (by omega) (by omega) (by omega) (by omega), HT.out.step (by have := HML.out; omega) (by have := HC.out; unfold Kid; omega) (by omega) (by rw [HX.out, HY.out]; exact hxy) (big0 HC.out (by omega))⟩
          case measure => first | (simp [intOf]; done) | (simp [intOf]; omega)
        · have hd : decide (x < y) = false := decide_eq_false hxy
          go_quiet ((go_at_call 49; first | exact quietL2 (less x y _) | exact quietL (less x y _)))
          go_wp2
          go_end0
          exact SPost.mk (by first | exact HR.out.drewN _ | exact HR.out.drew.drewN _) HSW.out (HT.out.fin (fun d h1 h2 => Int.le_trans ((show ∀ d, Kid r d → d < hi → M.getD (f + d) 0 ≤ M.getD (f + c) 0 from big0 HC.out (by omega)) d h1 h2) (by rw [HX.out, HY.out]; omega)))
    · have f10 : (hi : Int) ≤ (c : Int) := by omega
      go_wp2
      go_end0
      exact SPost.mk HR.out HSW.out (HT.out.fin (fun d h1 h2 => by have := HC.out; unfold Kid at h1; omega))
end S32

namespace S32
theorem heap_root {f k : Nat} {M : List Int} (h : Heap f 0 k M) : ∀ p, p < k → M.getD (f + p) 0 ≤ M.getD (f + 0) 0 := by
  intro p
  induction p using Nat.strongRecOn with
  | ind p ih =>
    intro hp
    by_cases h0 : p = 0
    · subst h0; exact Int.le_refl _
    · exact Int.le_trans (h ((p - 1) / 2) p (Nat.zero_le _) (by unfold Kid; omega) hp) (ih ((p - 1) / 2) (by omega) (by omega))
/-- a heap in front, sorted ones behind -/
structure Hs (f n k : Nat) (M : List Int) : Prop where
  heap : Heap f 0 k M
  tail : ∀ p q, k ≤ p → p < q → q < n → M.getD (f + p) 0 ≤ M.getD (f + q) 0
  over : ∀ p q, p < k → k ≤ q → q < n → M.getD (f + p) 0 ≤ M.getD (f + q) 0
theorem Hs.start {f n : Nat} {M : List Int} (h : Heap f 0 n M) : Hs f n n M := ⟨h, fun p q h1 h2 h3 => by omega, fun p q h1 h2 h3 => by omega⟩
theorem Hs.swapped {f n i : Nat} {M : List Int} (h : Hs f n (i + 1) M) (hl : f + n ≤ M.length) (hi : i < n) : Heap f 1 i (swapL M f (f + i)) := by
  intro k c h1 h2 h3
  have g := fun k => swapL_at M f (f + i) (f + k) (by omega) (by omega)
  rw [g, g, if_neg (by omega), if_neg (by unfold Kid at h2; omega), if_neg (by unfold Kid at h2; omega), if_neg (by omega)]
  exact h.heap k c (Nat.zero_le _) h2 (by omega)
theorem Hs.next {f n i : Nat} {M N : List Int} (h : Hs f n (i + 1) M) (hl : f + n ≤ M.length) (hi : i < n) (hs : Sw (f + 0) (f + i) (swapL M f (f + i)) N) (hh : Heap f 0 i N) : Hs f n i N := by
  have g := fun k => swapL_at M f (f + i) (f + k) (by omega) (by omega)
  have root := heap_root h.heap
  have tl : ∀ q, i ≤ q → N.getD (f + q) 0 = if q = i then M.getD f 0 else M.getD (f + q) 0 := by
    intro q hq
    rw [hs.offD (f + q) (.inr (by omega)), g]
    by_cases e : q = i
    · rw [if_pos (by omega), if_pos e]
    · rw [if_neg (by omega), if_neg (by omega), if_neg e]
  have fr : ∀ p, p < i → N.getD (f + p) 0 ≤ M.getD f 0 := by
    have := hs.all (by rw [swapL_len]; omega) (fun x => x ≤ M.getD f 0) (fun k k1 k2 => by
      obtain ⟨p, rfl⟩ : ∃ p, k = f + p := ⟨k - f, by omega⟩
      rw [g, if_neg (by omega)]
      split
      · exact root i (by omega)
      · exact root p (by omega))
    exact fun p hp => this (f + p) (by omega) (by omega)
  refine ⟨hh, fun p q h1 h2 h3 => ?_, fun p q h1 h2 h3 => ?_⟩
  · rw [tl p h1, tl q (by omega), if_neg (show ¬ q = i by omega)]
    split
    · exact h.over 0 q (by omega) (by omega) h3
    · exact h.tail p q (by omega) h2 h3
  · rw [tl q h2]
    split
    · exact fr p h1
    · exact Int.le_trans (fr p h1) (h.over 0 q (by omega) (by omega) h3)
theorem Hs.fin {f n : Nat} {M : List Int} (h : Hs f n 0 M) : SortedOn M f (f + n) := by
  intro i j h1 h2 h3
  obtain ⟨p, rfl⟩ : ∃ p, i = f + p := ⟨i - f, by omega⟩
  obtain ⟨q, rfl⟩ : ∃ q, j = f + q := ⟨j - f, by omega⟩
  exact h.tail p q (Nat.zero_le _) (by omega) (by omega)
def H1Rel (w0 : World) (b f n : Nat) (L : List Int) (x : Value) (w : World) : Prop := ∃ (I : Int) (k : Nat) (M : List Int), x = .int .i64 I ∧ I = (k : Int) - 1 ∧ k ≤ n ∧ Row w0 w b M ∧ Sw f (f + n) L M ∧ Heap f k n M
def H2Rel (w0 : World) (b f n : Nat) (L : List Int) (x : Value) (w : World) : Prop := ∃ (I : Int) (k : Nat) (M : List Int), x = .int .i64 I ∧ I = (k : Int) - 1 ∧ k ≤ n ∧ Row w0 w b M ∧ Sw f (f + n) L M ∧ Hs f n k M
set_option maxHeartbeats 8000000 in
set_option maxRecDepth 100000 in
theorem heapSort_is (b cap f e : Nat) (L : List Int) (w : World) (hL : L.length ≤ 64) (h : CellsAt w b (vals L)) (hfe : f < e) (he : e ≤ L.length) :
    Calls Try.prog 44 #[.slice (some ⟨b, 0, none⟩) L.length cap, .int .i64 f, .int .i64 e] w (InsPost w b f e L) := by
  have HS := Lib.hid (Row.start h)
  obtain ⟨n, hn⟩ : ∃ n, e = f + n := ⟨e - f, by omega⟩
  have hnI : (e : Int) - (f : Int) = (n : Int) := by omega
  have HN := Lib.hid hn; have HNI := Lib.hid hnI
  have hn0 : 0 < n := by omega
  have hn64 : n ≤ 64 := by omega
  have hH0 : Heap f ((n - 1) / 2 + 1) n L := fun k c h1 h2 h3 => by unfold Kid at h2; omega
  have HH0 := Lib.hid hH0
  clear h hn hnI hH0
  go_enter Try.func44, Try.ntmps44
  go_upto_region 3 with (fail)
  rw [HNI.out]
  go_wp2
  go_loopw [9] (fun x wr => H1Rel w b f n L x wr) (fun x _ => (intOf x + 1).toNat)
  case atStart => exact ⟨_, (n - 1) / 2 + 1, L, rfl, by omega, by omega, HS.out, .refl, HH0.out⟩
  case round =>
    obtain ⟨I, k, M, rfl, hI, hk, hR, hS, hT⟩ := hrel
    have HR := Lib.hid hR; have HSW := Lib.hid hS; have HT := Lib.hid hT
    have hml := hS.len
    have HML := Lib.hid hml
    clear hR hS hT hml HS HH0
    by_cases hk0 : 0 < k
    · obtain ⟨i, rfl⟩ : ∃ i : Nat, I = (i : Int) := ⟨k - 1, by omega⟩
      obtain rfl : k = i + 1 := by omega
      clear hI
      have h0 : (0 : Int) ≤ (i : Int) := by omega
      go_wp2_with fail
      rw [← HML.out]
      refine (siftDown_is b cap f i n M _ (by have := HML.out; omega) HR.out.c (by omega) (by have := HML.out; have := HN.out; omega) (by have := HML.out; have := HN.out; omega) HT.out).mono ?_
      rintro e1 w1 ⟨rfl, N, hR1, hS1, hH1⟩
      have HR1 := Lib.hid (HR.out.trans hR1)
      have HS1 := Lib.hid (HSW.out.trans (hS1.mono (by omega) (Nat.le_refl _)))
      have HH1 := Lib.hid hH1
      rw [HML.out]
      clear hR1 hS1 hH1
      go_wp2
      go_roundw
      case rel => exact ⟨_, i, N, rfl, rfl, by omega, HR1.out, HS1.out, HH1.out⟩
      case measure => first | (simp [intOf]; done) | (simp [intOf]; omega)
    · obtain rfl : k = 0 := by omega
      have h0 : I < 0 := by omega
      have hc1 : (n : Int) - 1 = ((n - 1 : Nat) : Int) := by omega
      have HST := Lib.hid (Hs.start HT.out)
      clear hI
      go_wp2
      go_loopw [10] (fun x wr => H2Rel w b f n L x wr) (fun x _ => (intOf x + 1).toNat)
      case atStart => exact ⟨_, n, M, rfl, by omega, by omega, HR.out, HSW.out, HST.out⟩
      case round =>
        obtain ⟨J, k, M, rfl, hJ, hk, hR, hS, hT⟩ := hrel
        clear HR HSW HT HML HST hc1
        have HR := Lib.hid hR; have HSW := Lib.hid hS; have HT := Lib.hid hT
        have hml := hS.len
        have HML := Lib.hid hml
        clear hR hS hT hml
        by_cases hk0 : 0 < k
        · obtain ⟨i, rfl⟩ : ∃ i : Nat, J = (i : Int) := ⟨k - 1, by omega⟩
          obtain rfl : k = i + 1 := by omega
          clear hJ
          have h0 : (0 : Int) ≤ (i : Int) := by omega
          have hfi : f + i < L.length := by have := HN.out; omega
          have q1 := val_cell HR.out.c f (by have := HML.out; omega)
          have q2 := val_cell HR.out.c (f + i) (by have := HML.out; omega)
          obtain ⟨x, hx⟩ : ∃ x, M.getD f 0 = x := ⟨_, rfl⟩
          obtain ⟨y, hy⟩ : ∃ y, M.getD (f + i) 0 = y := ⟨_, rfl⟩
          rw [hx] at q1
          rw [hy] at q2
          have HX := Lib.hid hx; have HY := Lib.hid hy
          have cz := set_reads q1 q2
          have hff := HR.out.c.2.1
          have hfb := HR.out.c.lt
          have e1 : IntKind.i64.wrap ((f : Int) + (i : Int)) = (f : Int) + (i : Int) := IntWalk.i64_in _ (by omega)
          have e2 : ((f : Int) + (i : Int)).toNat = f + i := by omega
          have e3 : (f : Int) + (i : Int) < (L.length : Int) := by omega
          have e4 : (0 : Int) ≤ (f : Int) + (i : Int) := by omega
          have e5 : (f : Int) < (L.length : Int) := by omega
          clear hx hy
          go_wp2
          go_region
          have HR1 : Hid (Row w _ b (swapL M f (f + i))) := (by first | exact (HR.out.set2 f (f + i) (by have := HML.out; omega) (by have := HML.out; omega) x y HX.out HY.out).drew | exact HR.out.set2 f (f + i) (by have := HML.out; omega) (by have := HML.out; omega) x y HX.out HY.out : Row w _ b (swapL M f (f + i)))
          have HSWP : Hid (Sw f (f + n) L (swapL M f (f + i))) := HSW.out.step f (f + i) (by omega) (by omega) (by omega) (by omega)
          have HNX := Lib.hid (fun N => HT.out.next (N := N) (by have := HML.out; have := HN.out; omega) (by omega))
          have HT1 := Lib.hid (HT.out.swapped (by have := HML.out; have := HN.out; omega) (by omega))
          have hml1 : (swapL M f (f + i)).length = L.length := by rw [swapL_len]; exact HML.out
          have HML1 := Lib.hid hml1
          clear hml1 q1 q2 cz hff hfb e1 e2 e3 e4 e5 HR HSW HT HX HY
          go_wp2_with fail
          rw [← HML1.out]
          refine (siftDown_is b cap f 0 i (swapL M f (f + i)) _ (by have := HML1.out; omega) HR1.out.c (by omega) (by have := HML1.out; have := HN.out; omega) (by have := HML1.out; have := HN.out; omega) HT1.out).mono ?_
          rintro e1 w1 ⟨rfl, N, hR1, hS1, hH1⟩
          have HR2 := Lib.hid (HR1.out.trans hR1)
          have HS2 := Lib.hid (HSWP.out.trans (hS1.mono (by omega) (by omega)))
          have HH2 := Lib.hid (HNX.out N hS1 hH1)
          rw [HML1.out]
          clear hR1 hS1 hH1 HR1 HSWP HNX HT1
          go_wp2
          go_roundw
          case rel => exact ⟨_, i, N, rfl, rfl, by omega, HR2.out, HS2.out, HH2.out⟩
          case measure => first | (simp [intOf]; done) | (simp [intOf]; omega)
        · obtain rfl : k = 0 := by omega
          have h0 : J < 0 := by omega
          have hSW2 : Sw f e L M := by rw [HN.out]; exact HSW.out
          have hST2 : SortedOn M f e := by rw [HN.out]; exact HT.out.fin
          have HSW2 := Lib.hid hSW2; have HST2 := Lib.hid hST2
          clear hJ hSW2 hST2
          go_wp2
          go_end0
          exact ⟨rfl, M, HR.out, HSW2.out, HST2.out⟩
end S32

end Go.Proofs.Ytijoalaijkobpaa
