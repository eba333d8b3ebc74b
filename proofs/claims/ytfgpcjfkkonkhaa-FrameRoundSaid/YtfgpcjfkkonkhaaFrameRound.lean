/- FrameRound: whatever the three bytes are, the law answers true and leaves memory as it was. -/
import Derived.Test.YtfgpcjfkkonkhaaOpen
import Derived.Test.YtfgpcjfkkonkhaaNum
namespace Go.Proofs.Ytfgpcjfkkonkhaa.frameRound
open Go.ChangeShapes Go.WideShapes Go.ChangeAt Go.RowKit Go.Proofs.Ytfgpcjfkkonkhaa Go.Proofs.Ytfgpcjfkkonkhaa.Open
set_option linter.unusedVariables false
def newerB (a b : Int) : Bool := decide (1 ≤ (a - b) % 256 ∧ (a - b) % 256 ≤ 127)
theorem newer_wrap (x : Int) (h0 : 0 ≤ x) (h1 : x ≤ 255) : (0 < IntKind.i8.wrap x) ↔ (1 ≤ x ∧ x ≤ 127) := by
  simp only [IntKind.wrap, IntKind.bits, IntKind.signed]; simp; split <;> omega
theorem newer_any (a b : Int) (w : World) :
    Calls Try.prog 15 #[.int .u8 a, .int .u8 b] w fun e w' => e = .returned (.bool (newerB a b)) ∧ w = w' := by
  go_enter Try.func15, Try.ntmps15
  go_wp2
  go_ret
  refine ⟨ret_bool ?_, rfl⟩
  unfold newerB
  exact decide_eq_decide.2 (newer_wrap _ (by omega) (by omega))
theorem newer_shift (a b c : Int) : newerB ((a + c) % 256) ((b + c) % 256) = newerB a b := by
  unfold newerB; congr 1; apply propext; constructor <;> intro h <;> omega
theorem newer_not (a b : Int) (h1 : (a - b) % 256 ≠ 128) (h2 : (a - b) % 256 ≠ 0) : newerB b a = !newerB a b := by
  unfold newerB; rw [Bool.eq_not]; intro h3; simp only [decide_eq_decide] at h3; omega
theorem newer_small (a b : Int) (h : newerB a b = true) : (a - b) % 256 ≤ 127 := by
  unfold newerB at h; simp at h; omega
theorem newer_self (a : Int) : newerB a a = false := by
  unfold newerB; simp
set_option maxHeartbeats 400000 in
theorem law (a b c : Int) (w : World) (ha : 0 ≤ a ∧ a ≤ 255) (hb : 0 ≤ b ∧ b ≤ 255) (hc : 0 ≤ c ∧ c ≤ 255) :
    Calls Try.prog 3 #[.int .u8 a, .int .u8 b, .int .u8 c] w fun e w' => e = .returned (.bool true) ∧ Below w.heap.size w w' := by
  have k1 : newerB 3 250 = true := by decide
  have k2 : newerB 5 5 = false := by decide
  have hs := newer_shift a b c
  by_cases c0 : a = b
  · subst c0
    have hp := newer_self a
    have hs' := newer_self ((a + c) % 256)
    clear hs
    go_enter Try.func3, Try.ntmps3
    go_wp2_with (go_at_call 15; refine (newer_any _ _ _).mono ?_; rintro e w' ⟨rfl, rfl⟩)
    all_goals
      go_ret
      exact ⟨ret_bool rfl, Below.refl _ _⟩
  · by_cases c1 : (a - b) % 256 = 128
    · have hsm := newer_small a b
      rcases hp : newerB a b with _ | _
      · rw [hp] at hs
        clear hsm
        have c1' : ((a - b) % 256 != 128) = false := by simp [c1]
        clear c1
        go_enter Try.func3, Try.ntmps3
        go_wp2_with (go_at_call 15; refine (newer_any _ _ _).mono ?_; rintro e w' ⟨rfl, rfl⟩)
        all_goals
          go_ret
          exact ⟨ret_bool rfl, Below.refl _ _⟩
      · exact absurd (hsm hp) (by omega)
    · have hn := newer_not a b c1 (by omega)
      have hsm := newer_small a b
      rcases hp : newerB a b with _ | _
      all_goals
        rw [hp] at hs hn hsm
        simp only [Bool.not_true, Bool.not_false] at hn
        simp only [forall_const, reduceCtorEq, false_implies] at hsm
        go_enter Try.func3, Try.ntmps3
        go_wp2_with (go_at_call 15; refine (newer_any _ _ _).mono ?_; rintro e w' ⟨rfl, rfl⟩)
        all_goals
          go_ret
          exact ⟨ret_bool (by first | rfl | (simp; omega)), Below.refl _ _⟩
set_option maxRecDepth 100000 in
theorem lifted (os : Os) (started : os.Started) (H : Type) (enc : TypeId × Value → H) :
    ReturnsInHanded {} Try.checked os 3 .any (Rows.frameRoundSpec.pre6 enc Try.prog Try.f3 Rows.frameRoundRow.domain false) (Rows.frameRoundSpec.post enc Try.prog Try.f3 false true false false) := by
  refine returnsInHanded_of_change (C := Try.checked) own started (by kernel_rfl) Try.func3
    (ChangeSpec.witness6 (enc := enc) (C := Try.checked) false ⟨#[], #[.int .u8 0, .int .u8 0, .int .u8 0], []⟩ 8 (by kernel_rfl) (by kernel_rfl) (by kernel_rfl) (by kernel_rfl)) ?_
  intro W base args ds gs before hval0 hW hcnd _
  have hval : ∀ (j : Nat) t v, Try.f3.params[j]? = some t → args[j]? = some v → Value.okWide Try.prog W .any base t v := hval0
  have hW' := hW
  obtain ⟨p, q, hA0, hV, rfl, hfz, hnd⟩ := hW
  have hA : DataW.TrodAll enc Try.prog W 0 (fun _ => true) true Try.f3.params.toList args.toList ds p := hA0
  rw [Try.params3] at hA hval
  obtain ⟨v0, vs0, d0, ds0, p0, q0, hargs, rfl, rfl, h0, r0⟩ := trodAll_cons hA
  obtain ⟨v1, vs1, d1, ds1, p1, q1, rfl, rfl, rfl, h1, r1⟩ := trodAll_cons r0
  obtain ⟨v2, vs2, d2, ds2, p2, q2, rfl, rfl, rfl, h2, r2⟩ := trodAll_cons r1
  obtain ⟨rfl, rfl, rfl⟩ := trodAll_nil r2
  obtain rfl : args = #[v0, v1, v2] := by cases args; simp_all
  obtain ⟨rfl, rfl⟩ := trodVars_none hV
  have k0 := h0
  have lt0 : ∀ x ∈ p0, x.block < W.heap.size := by obtain ⟨m, hm⟩ := k0; exact DataW.trod_lt m _ _ _ hm
  have k1 := h1
  have lt1 : ∀ x ∈ p1, x.block < W.heap.size := by obtain ⟨m, hm⟩ := k1; exact DataW.trod_lt m _ _ _ hm
  have k2 := h2
  have lt2 : ∀ x ∈ p2, x.block < W.heap.size := by obtain ⟨m, hm⟩ := k2; exact DataW.trod_lt m _ _ _ hm
  obtain ⟨a0, rfl, rfl, rfl, w0⟩ := open_int Try.underlying5 (hval 0 5 v0 rfl rfl) h0
  obtain ⟨a1, rfl, rfl, rfl, w1⟩ := open_int Try.underlying5 (hval 1 5 v1 rfl rfl) h1
  obtain ⟨a2, rfl, rfl, rfl, w2⟩ := open_int Try.underlying5 (hval 2 5 v2 rfl rfl) h2
  clear hA0 hval0
  refine (law a0 a1 a2 W (bounds_u8 w0) (bounds_u8 w1) (bounds_u8 w2)).mono fun e W' ⟨he, bel⟩ => ?_
  subst he
  exact ⟨_, rfl, _, _, _, [], _, [], hW', trodAll_mk1 (shut_bool Try.underlying4 _), (trodAll_cons_mk (Below.trod laidOut (by kernel_rfl) (of_decide_eq_true (by kernel_rfl)) k0 bel lt0) (trodAll_cons_mk (Below.trod laidOut (by kernel_rfl) (of_decide_eq_true (by kernel_rfl)) k1 bel lt1) (trodAll_cons_mk (Below.trod laidOut (by kernel_rfl) (of_decide_eq_true (by kernel_rfl)) k2 bel lt2) trodAll_mk0))), rfl, bel.frame _, fun h => by cases h⟩
theorem over : Rows.frameRoundRow.holds Try.pinned (OpenSpec.ofChange Rows.frameRoundSpec) :=
  OpenClaim.holds_of_wide 3 Try.f3 rfl rfl rfl rfl rfl rfl rfl ⟨rfl, rfl, rfl, rfl, rfl⟩ rfl rfl rfl rfl rfl (by kernel_rfl) Try.func3 (by kernel_rfl)
    (of_decide_eq_true (by kernel_rfl)) (by unfold Func.isWrapper; first | (rw [if_pos (by decide +kernel)]; kernel_rfl) | (rw [if_neg (by decide +kernel)]; exact ⟨rfl, rfl⟩))
    (fun os started H enc _ => lifted os started H enc)
theorem proved : Rows.FrameRoundSaid := over
#print axioms proved

end Go.Proofs.Ytfgpcjfkkonkhaa.frameRound
