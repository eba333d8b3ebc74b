/- OddsWeigh: the closure that it hands to slices.ContainsFunc, and what that answers. -/
import Derived.Test.YtiocgmioijcjhaaCutsIdx
import Derived.Test.YtiocgmioijcjhaaGateLaw
namespace Go.Proofs.Ytiocgmioijcjhaa
open Go.ChangeShapes Go.WideShapes Go.ChangeAt Go.RowKit
set_option linter.unusedVariables false

set_option maxHeartbeats 2000000 in
set_option maxRecDepth 100000 in
theorem bitC_is (c k p : Nat) (hc : c < 8) (hk : k < 65536) (w : World) (h : w.cell? ⟨p, 0, none⟩ = some (.int .i64 (c : Int))) :
    Calls Try.prog 32 #[.int .u16 (k : Int), .pointer (some ⟨p, 0, none⟩)] w fun e w' => e = .returned (.bool (k.testBit c)) ∧ Below w.heap.size w w' := by
  rcases (by omega : c = 0 ∨ c = 1 ∨ c = 2 ∨ c = 3 ∨ c = 4 ∨ c = 5 ∨ c = 6 ∨ c = 7) with rfl | rfl | rfl | rfl | rfl | rfl | rfl | rfl
  · have eb : (bits BinOp.and IntKind.u16 ((k : Int) / 1) 1 == 1) = k.testBit 0 := bit_is k 0 1 (by omega) rfl
    (try rw [Int.ediv_one] at eb)
    rw [show ((0 : Nat) : Int) = 0 from rfl] at h
    generalize k.testBit 0 = r at *
    go_enter Try.func32, Try.ntmps32
    go_wp2_with fail
    go_ret
    exact ⟨rfl, by repeat (first | with_reducible exact Below.refl _ _ | ((with_reducible refine Below.setCell ?_ ?_ _); rotate_left; (· first | (simp; done) | omega | (simp; omega))) | with_reducible refine below_drewN ?_ _ | with_reducible refine Below.drew ?_ | ((with_reducible refine Below.alloc ?_ ?_ _); rotate_left; (· first | (simp; done) | omega | (simp; omega))) | exact Below.refl _ _ | refine Below.setCell ?_ (by first | (simp; done) | omega | (simp; omega)) _ | refine below_drewN ?_ _ | refine Below.drew ?_ | refine Below.alloc ?_ (by first | (simp; done) | omega | (simp; omega)) _)⟩
  · have eb : (bits BinOp.and IntKind.u16 ((k : Int) / 2) 1 == 1) = k.testBit 1 := bit_is k 1 2 (by omega) rfl
    (try rw [Int.ediv_one] at eb)
    rw [show ((1 : Nat) : Int) = 1 from rfl] at h
    generalize k.testBit 1 = r at *
    go_enter Try.func32, Try.ntmps32
    go_wp2_with fail
    go_ret
    exact ⟨rfl, by repeat (first | with_reducible exact Below.refl _ _ | ((with_reducible refine Below.setCell ?_ ?_ _); rotate_left; (· first | (simp; done) | omega | (simp; omega))) | with_reducible refine below_drewN ?_ _ | with_reducible refine Below.drew ?_ | ((with_reducible refine Below.alloc ?_ ?_ _); rotate_left; (· first | (simp; done) | omega | (simp; omega))) | exact Below.refl _ _ | refine Below.setCell ?_ (by first | (simp; done) | omega | (simp; omega)) _ | refine below_drewN ?_ _ | refine Below.drew ?_ | refine Below.alloc ?_ (by first | (simp; done) | omega | (simp; omega)) _)⟩
  · have eb : (bits BinOp.and IntKind.u16 ((k : Int) / 4) 1 == 1) = k.testBit 2 := bit_is k 2 4 (by omega) rfl
    (try rw [Int.ediv_one] at eb)
    rw [show ((2 : Nat) : Int) = 2 from rfl] at h
    generalize k.testBit 2 = r at *
    go_enter Try.func32, Try.ntmps32
    go_wp2_with fail
    go_ret
    exact ⟨rfl, by repeat (first | with_reducible exact Below.refl _ _ | ((with_reducible refine Below.setCell ?_ ?_ _); rotate_left; (· first | (simp; done) | omega | (simp; omega))) | with_reducible refine below_drewN ?_ _ | with_reducible refine Below.drew ?_ | ((with_reducible refine Below.alloc ?_ ?_ _); rotate_left; (· first | (simp; done) | omega | (simp; omega))) | exact Below.refl _ _ | refine Below.setCell ?_ (by first | (simp; done) | omega | (simp; omega)) _ | refine below_drewN ?_ _ | refine Below.drew ?_ | refine Below.alloc ?_ (by first | (simp; done) | omega | (simp; omega)) _)⟩
  · have eb : (bits BinOp.and IntKind.u16 ((k : Int) / 8) 1 == 1) = k.testBit 3 := bit_is k 3 8 (by omega) rfl
    (try rw [Int.ediv_one] at eb)
    rw [show ((3 : Nat) : Int) = 3 from rfl] at h
    generalize k.testBit 3 = r at *
    go_enter Try.func32, Try.ntmps32
    go_wp2_with fail
    go_ret
    exact ⟨rfl, by repeat (first | with_reducible exact Below.refl _ _ | ((with_reducible refine Below.setCell ?_ ?_ _); rotate_left; (· first | (simp; done) | omega | (simp; omega))) | with_reducible refine below_drewN ?_ _ | with_reducible refine Below.drew ?_ | ((with_reducible refine Below.alloc ?_ ?_ _); rotate_left; (· first | (simp; done) | omega | (simp; omega))) | exact Below.refl _ _ | refine Below.setCell ?_ (by first | (simp; done) | omega | (simp; omega)) _ | refine below_drewN ?_ _ | refine Below.drew ?_ | refine Below.alloc ?_ (by first | (simp; done) | omega | (simp; omega)) _)⟩
  · have eb : (bits BinOp.and IntKind.u16 ((k : Int) / 16) 1 == 1) = k.testBit 4 := bit_is k 4 16 (by omega) rfl
    (try rw [Int.ediv_one] at eb)
    rw [show ((4 : Nat) : Int) = 4 from rfl] at h
    generalize k.testBit 4 = r at *
    go_enter Try.func32, Try.ntmps32
    go_wp2_with fail
    go_ret
    exact ⟨rfl, by repeat (first | with_reducible exact Below.refl _ _ | ((with_reducible refine Below.setCell ?_ ?_ _); rotate_left; (· first | (simp; done) | omega | (simp; omega))) | with_reducible refine below_drewN ?_ _ | with_reducible refine Below.drew ?_ | ((with_reducible refine Below.alloc ?_ ?_ _); rotate_left; (· first | (simp; done) | omega | (simp; omega))) | exact Below.refl _ _ | refine Below.setCell ?_ (by first | (simp; done) | omega | (simp; omega)) _ | refine below_drewN ?_ _ | refine Below.drew ?_ | refine Below.alloc ?_ (by first | (simp; done) | omega | (simp; omega)) _)⟩
  · have eb : (bits BinOp.and IntKind.u16 ((k : Int) / 32) 1 == 1) = k.testBit 5 := bit_is k 5 32 (by omega) rfl
    (try rw [Int.ediv_one] at eb)
    rw [show ((5 : Nat) : Int) = 5 from rfl] at h
    generalize k.testBit 5 = r at *
    go_enter Try.func32, Try.ntmps32
    go_wp2_with fail
    go_ret
    exact ⟨rfl, by repeat (first | with_reducible exact Below.refl _ _ | ((with_reducible refine Below.setCell ?_ ?_ _); rotate_left; (· first | (simp; done) | omega | (simp; omega))) | with_reducible refine below_drewN ?_ _ | with_reducible refine Below.drew ?_ | ((with_reducible refine Below.alloc ?_ ?_ _); rotate_left; (· first | (simp; done) | omega | (simp; omega))) | exact Below.refl _ _ | refine Below.setCell ?_ (by first | (simp; done) | omega | (simp; omega)) _ | refine below_drewN ?_ _ | refine Below.drew ?_ | refine Below.alloc ?_ (by first | (simp; done) | omega | (simp; omega)) _)⟩
  · have eb : (bits BinOp.and IntKind.u16 ((k : Int) / 64) 1 == 1) = k.testBit 6 := bit_is k 6 64 (by omega) rfl
    (try rw [Int.ediv_one] at eb)
    rw [show ((6 : Nat) : Int) = 6 from rfl] at h
    generalize k.testBit 6 = r at *
    go_enter Try.func32, Try.ntmps32
    go_wp2_with fail
    go_ret
    exact ⟨rfl, by repeat (first | with_reducible exact Below.refl _ _ | ((with_reducible refine Below.setCell ?_ ?_ _); rotate_left; (· first | (simp; done) | omega | (simp; omega))) | with_reducible refine below_drewN ?_ _ | with_reducible refine Below.drew ?_ | ((with_reducible refine Below.alloc ?_ ?_ _); rotate_left; (· first | (simp; done) | omega | (simp; omega))) | exact Below.refl _ _ | refine Below.setCell ?_ (by first | (simp; done) | omega | (simp; omega)) _ | refine below_drewN ?_ _ | refine Below.drew ?_ | refine Below.alloc ?_ (by first | (simp; done) | omega | (simp; omega)) _)⟩
  · have eb : (bits BinOp.and IntKind.u16 ((k : Int) / 128) 1 == 1) = k.testBit 7 := bit_is k 7 128 (by omega) rfl
    (try rw [Int.ediv_one] at eb)
    rw [show ((7 : Nat) : Int) = 7 from rfl] at h
    generalize k.testBit 7 = r at *
    go_enter Try.func32, Try.ntmps32
    go_wp2_with fail
    go_ret
    exact ⟨rfl, by repeat (first | with_reducible exact Below.refl _ _ | ((with_reducible refine Below.setCell ?_ ?_ _); rotate_left; (· first | (simp; done) | omega | (simp; omega))) | with_reducible refine below_drewN ?_ _ | with_reducible refine Below.drew ?_ | ((with_reducible refine Below.alloc ?_ ?_ _); rotate_left; (· first | (simp; done) | omega | (simp; omega))) | exact Below.refl _ _ | refine Below.setCell ?_ (by first | (simp; done) | omega | (simp; omega)) _ | refine below_drewN ?_ _ | refine Below.drew ?_ | refine Below.alloc ?_ (by first | (simp; done) | omega | (simp; omega)) _)⟩
def anyBit (c : Nat) (xs : List Nat) : Bool := xs.any fun k => k.testBit c
set_option maxHeartbeats 4000000 in
set_option maxRecDepth 100000 in
theorem idxBit_is (xs : List Nat) (c p : Nat) (v : Value) (w : World) (hv : IntsAt .u16 w v (u16s xs)) (hc : c < 8) (hx : ∀ x ∈ xs, x < 65536) (h : w.cell? ⟨p, 0, none⟩ = some (.int .i64 (c : Int))) (hl : xs.length ≤ 281474976710656) :
    Calls Try.prog 39 #[v, .func (.func 32) #[] #[.pointer (some ⟨p, 0, none⟩)]] w
      fun e w' => (∃ i : Int, e = .returned (.int .i64 i) ∧ -1 ≤ i ∧ i ≤ 281474976710656 ∧ decide (0 ≤ i) = anyBit c xs) ∧ Below w.heap.size w w' := by
  have hp := World.block_lt_of_cell? _ _ h
  obtain ⟨a, cap, hva⟩ := hv.len
  rw [u16s_len] at hva
  subst hva
  have HV := Lib.hid hv; have HX := Lib.hid hx; have HC := Lib.hid h
  clear hv hx h
  go_enter Try.func39, Try.ntmps39
  go_wp2_with fail
  go_loopw [8] (fun i wr => (∃ k : Nat, k ≤ xs.length ∧ i = .int .i64 k ∧ anyBit c (xs.take k) = false) ∧ Below w.heap.size w wr) (fun i _ => xs.length - (intOf i).toNat)
  case atStart => exact ⟨⟨0, Nat.zero_le _, rfl, rfl⟩, Below.refl _ _⟩
  case round =>
    obtain ⟨⟨k, hk, rfl, hn⟩, hB⟩ := hrel
    have HB := Lib.hid hB; have HN := Lib.hid hn
    have zB := hB.size
    clear hn
    by_cases hlt : k < xs.length
    · obtain ⟨x, hxk⟩ : ∃ x, xs[k]? = some x := ⟨_, List.getElem?_eq_getElem hlt⟩
      have hx6 : x < 65536 := HX.out x (List.mem_of_getElem? hxk)
      obtain ⟨b, off, cap', hv', hl1, hcell⟩ := ints_at (HV.out.later hB (Nat.le_refl _)) (u16s_at hxk)
      rw [u16s_len] at hl1 hv'
      cases hv'
      have e5 : (k : Int) < (xs.length : Int) := by omega
      have e6 : k + 1 ≤ cap := by omega
      have PC : Hid (wr.cell? ⟨p, 0, none⟩ = some (.int .i64 (c : Int))) := (hB.cell (p := ⟨p, 0, none⟩) hp).trans HC.out
      have XK := Lib.hid hxk
      clear hB hxk
      go_wp2_with fail
      refine (bitC_is c x p hc hx6 _ PC.out).mono ?_
      rintro e w1 ⟨rfl, hb1⟩
      have B1 := Lib.hid (HB.out.trans (hb1.mono zB))
      clear hb1 hcell
      have step : anyBit c (xs.take (k + 1)) = (anyBit c (xs.take k) || x.testBit c) := by
        rw [List.take_add_one, XK.out]
        simp [anyBit]
      cases hr : x.testBit c
      · rw [hr, HN.out] at step
        have ST := Lib.hid step
        clear step hr
        go_wp2
        go_roundw
        case rel => exact ⟨⟨k + 1, by omega, by go_num, ST.out⟩, B1.out⟩
        case measure => simp [intOf]; omega
      · have hall : anyBit c xs = true := List.any_eq_true.2 ⟨x, List.mem_of_getElem? XK.out, hr⟩
        clear step hr
        go_wp2
        go_ret
        exact ⟨⟨k, rfl, by omega, by omega, by rw [hall]; simp⟩, B1.out⟩
    · obtain rfl : k = xs.length := by omega
      clear hB
      go_wp2
      go_ret
      refine ⟨⟨-1, rfl, by omega, by omega, ?_⟩, HB.out⟩
      have := HN.out
      rw [List.take_length] at this
      rw [this]; decide
set_option maxHeartbeats 4000000 in
set_option maxRecDepth 100000 in
theorem hasBit_is (xs : List Nat) (c p : Nat) (v : Value) (w : World) (hv : IntsAt .u16 w v (u16s xs)) (hc : c < 8) (hx : ∀ x ∈ xs, x < 65536) (h : w.cell? ⟨p, 0, none⟩ = some (.int .i64 (c : Int))) (hl : xs.length ≤ 281474976710656) :
    Calls Try.prog 18 #[v, .func (.func 32) #[] #[.pointer (some ⟨p, 0, none⟩)]] w
      fun e w' => e = .returned (.bool (anyBit c xs)) ∧ Below w.heap.size w w' := by
  have HV := Lib.hid hv; have HX := Lib.hid hx; have HC := Lib.hid h
  clear hv hx h
  go_enter Try.func18, Try.ntmps18
  go_wp2_with fail
  refine (idxBit_is xs c p _ _ HV.out hc HX.out HC.out hl).mono ?_
  rintro e w1 ⟨⟨i, rfl, i0, i1, hi⟩, hb1⟩
  have HI := Lib.hid hi
  clear hi i0 i1
  go_wp2
  go_ret
  exact ⟨by rw [← HI.out]; rfl, hb1⟩

end Go.Proofs.Ytiocgmioijcjhaa
