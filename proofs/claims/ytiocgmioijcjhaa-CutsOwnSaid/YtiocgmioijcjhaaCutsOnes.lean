/- cuts.order: what math/bits.OnesCount16 and the comparison of two sets compute. -/
import Derived.Test.YtiocgmioijcjhaaGate
import Derived.Lib.BitFns
import Derived.Lib.Tables
import Derived.Laws.BitsLemmas
namespace Go.Proofs.Ytiocgmioijcjhaa
open Go.ChangeShapes Go.WideShapes Go.ChangeAt Go.RowKit
set_option linter.unusedVariables false

/-- how many bits stand in a set of 16 -/
def pc (x : Nat) : Nat := Lib.onesCount (x / 256) + Lib.onesCount (x % 256)
set_option maxHeartbeats 4000000 in
set_option maxRecDepth 100000 in
theorem ones16_is (x : Nat) (hx : x < 65536) (w : World) :
    Calls Try.prog 41 #[.int .u16 (x : Int)] w fun e w' => e = .returned (.int .i64 ((pc x : Nat) : Int)) ∧ ∃ n, w' = w.drewN n := by
  have h1 := Lib.pop8_eq ⟨x / 256, by omega⟩
  have h2 := Lib.pop8_eq ⟨x % 256, by omega⟩
  have l1 := Lib.onesCount_le8 ⟨x / 256, by omega⟩
  have l2 := Lib.onesCount_le8 ⟨x % 256, by omega⟩
  simp only at h1 h2 l1 l2
  have hA : bits BinOp.and IntKind.u16 (x : Int) 255 = ((x % 256 : Nat) : Int) := by
    have := bits_mask .u16 16 (by decide) (fun n a b => IntWalk.u16_in n (by omega)) 8 (by decide) (x : Int) (by omega) (by omega)
    rw [show (2 : Int) ^ 8 = 256 from rfl, show (256 : Int) - 1 = 255 from rfl] at this
    rw [this]; omega
  have e0 : (0 : Int) ≤ ((x % 256 : Nat) : Int) := by omega
  have e1 : ((x % 256 : Nat) : Int) ≤ 255 := by omega
  have e2 : (0 : Int) ≤ (x : Int) / 256 := by omega
  have e3 : (x : Int) / 256 ≤ 255 := by omega
  go_enter Try.func41, Try.ntmps41
  generalize hT : (⟨List.toArray (List.append (List.append _ _) (List.append _ _))⟩ : ByteArray) = T
  have hT2 : Lib.pop8tab = T := by rw [← hT]; decide +kernel
  clear hT
  subst hT2
  go_wp2_with fail
  go_quiet (fail)
  go_wp2
  have e4 : (Lib.pop8 ((x : Int) / 256) + Lib.pop8 ((x : Int) % 256)) % 256 = ((pc x : Nat) : Int) := by
    rw [show (x : Int) / 256 = ((x / 256 : Nat) : Int) by omega, show (x : Int) % 256 = ((x % 256 : Nat) : Int) by omega, h1, h2]
    unfold pc; omega
  go_ret
  exact ⟨by rw [e4]; rfl, _, rfl⟩
/-- how two sets stand to each other in the order of the sort -/
def ordI (x y : Nat) : Int := if (pc x : Int) - (pc y : Int) ≠ 0 then (pc x : Int) - (pc y : Int) else (x : Int) - (y : Int)
theorem pc_le (x : Nat) (hx : x < 65536) : pc x ≤ 16 := by
  have l1 := Lib.onesCount_le8 ⟨x / 256, by omega⟩
  have l2 := Lib.onesCount_le8 ⟨x % 256, by omega⟩
  simp only at l1 l2
  unfold pc; omega
set_option maxHeartbeats 4000000 in
set_option maxRecDepth 100000 in
theorem order_is (x y : Nat) (hx : x < 65536) (hy : y < 65536) (w : World) :
    Calls Try.prog 44 #[.int .u16 (x : Int), .int .u16 (y : Int)] w fun e w' => e = .returned (.int .i64 (ordI x y)) ∧ ∃ n, w' = w.drewN n := by
  have l1 := pc_le x hx
  have l2 := pc_le y hy
  have hA := fun W => ones16_is x hx W
  have hB := fun W => ones16_is y hy W
  have w1 : IntKind.i64.wrap ((pc x : Int) - (pc y : Int)) = (pc x : Int) - (pc y : Int) := IntWalk.i64_in _ (by omega)
  have w2 : IntKind.i64.wrap ((x : Int) - (y : Int)) = (x : Int) - (y : Int) := IntWalk.i64_in _ (by omega)
  go_enter Try.func44, Try.ntmps44
  go_wp2_with fail
  refine (hA _).mono ?_
  rintro e w1 ⟨rfl, n1, rfl⟩
  go_wp2_with fail
  refine (hB _).mono ?_
  rintro e w2 ⟨rfl, n2, rfl⟩
  by_cases h : (pc x : Int) - (pc y : Int) = 0
  · have hb : (((pc x : Int) - (pc y : Int)) != 0) = false := by simpa using h
    have ho : ordI x y = (x : Int) - (y : Int) := by unfold ordI; rw [if_neg (by simpa using h)]
    clear h
    go_wp2
    go_ret
    exact ⟨by rw [ho]; rfl, _, rfl⟩
  · have hb : (((pc x : Int) - (pc y : Int)) != 0) = true := by simpa using h
    have ho : ordI x y = (pc x : Int) - (pc y : Int) := by unfold ordI; rw [if_pos h]
    clear h
    go_wp2
    go_ret
    exact ⟨by rw [ho]; rfl, _, rfl⟩

end Go.Proofs.Ytiocgmioijcjhaa
