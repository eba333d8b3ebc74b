/- What steadref.SameFrame and SameLink say of what is the same. -/
import Derived.Test.YtdmagoimfblopaaFrameLaw
namespace Go.Proofs.Ytdmagoimfblopaa
open Go.ChangeShapes Go.WideShapes Go.ChangeAt Go.RowKit
set_option linter.unusedVariables false

set_option maxHeartbeats 4000000 in
theorem same_yes (k l q : Int) (v u : Value) (xs : List Int) (w : World) (hv : IntsAt .i32 w v xs) (hu : IntsAt .i32 w u xs) (hx : xs.length ≤ 9223372036854775807) :
    Calls Try.prog 18 #[frameV k l q v, frameV k l q u] w fun e w' => e = .returned (.bool true) ∧ Below w.heap.size w w' := by
  have HV := Lib.hid hv; have HU := Lib.hid hu
  clear hv hu
  have hk : (k == k) = true := by simp
  have hl : (l == l) = true := by simp
  have hq : (q == q) = true := by simp
  obtain ⟨a, c, rfl⟩ := HV.out.len
  obtain ⟨b, d, rfl⟩ := HU.out.len
  go_enter Try.func18, Try.ntmps18
  go_wp2_with fail
  refine (equal_i32 xs xs _ _ _ (by exact HV.out.later (((Below.refl w.heap.size w).alloc (Nat.le_refl _) _).alloc (by simp) _) (Nat.le_refl _)) (by exact HU.out.later (((Below.refl w.heap.size w).alloc (Nat.le_refl _) _).alloc (by simp) _) (Nat.le_refl _)) hx hx).mono ?_
  rintro e1 w1 ⟨m, rfl, rfl⟩
  rw [decide_eq_true (rfl : xs = xs)]
  go_wp2
  go_ret
  refine ⟨rfl, ?_⟩
  exact below_drewN (by repeat (first | with_reducible exact Below.refl _ _ | ((with_reducible refine Below.setCell ?_ ?_ _); rotate_left; (· first | (simp; done) | omega | (simp; omega))) | with_reducible refine below_drewN ?_ _ | with_reducible refine Below.drew ?_ | ((with_reducible refine Below.alloc ?_ ?_ _); rotate_left; (· first | (simp; done) | omega | (simp; omega))) | exact Below.refl _ _ | refine Below.setCell ?_ (by first | (simp; done) | omega | (simp; omega)) _ | refine below_drewN ?_ _ | refine Below.drew ?_ | refine Below.alloc ?_ (by first | (simp; done) | omega | (simp; omega)) _)) m

end Go.Proofs.Ytdmagoimfblopaa
