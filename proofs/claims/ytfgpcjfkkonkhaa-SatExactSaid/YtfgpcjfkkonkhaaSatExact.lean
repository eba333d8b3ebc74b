/- SatExact: whatever the two numbers are, the law answers true and leaves memory as it was. -/
import Derived.Test.YtfgpcjfkkonkhaaSat
import Derived.Lib.Hide
import Derived.Outline
namespace Go.Proofs.Ytfgpcjfkkonkhaa.satExact
open Go.ChangeShapes Go.WideShapes Go.ChangeAt Go.RowKit Go.Proofs.Ytfgpcjfkkonkhaa Go.Proofs.Ytfgpcjfkkonkhaa.Open
set_option linter.unusedVariables false
/-- which test of the loop holds for a sum n -/
def Third (n x : Int) : Prop := (-2147483648 ≤ n ∧ n ≤ 2147483647 ∧ (x != n) = false) ∨ (n < -2147483648 ∧ (x != -2147483648) = false) ∨ (2147483647 < n ∧ (x != 2147483647) = false)
theorem third (n : Int) : Third n (sat32 n) := by
  unfold Third sat32
  rcases (by omega : (-2147483648 ≤ n ∧ n ≤ 2147483647) ∨ n < -2147483648 ∨ 2147483647 < n) with h | h | h
  · exact .inl ⟨h.1, h.2, by simp; omega⟩
  · exact .inr (.inl ⟨h, by simp; omega⟩)
  · exact .inr (.inr ⟨h, by simp; omega⟩)
set_option maxHeartbeats 2000000 in
set_option maxRecDepth 100000 in
theorem way (a b n0 n1 x0 x1 p : Int) (w : World) (ha : -2147483648 ≤ a ∧ a ≤ 2147483647) (hb : -2147483648 ≤ b ∧ b ≤ 2147483647) (hp : -2147483648 ≤ p ∧ p ≤ 2147483647) (hx0 : -2147483648 ≤ x0 ∧ x0 ≤ 2147483647) (hx1 : -2147483648 ≤ x1 ∧ x1 ≤ 2147483647)
    (k1 : sat32 2147483648 = 2147483647) (k2 : sat32 (-2147483649) = -2147483648) (k3 : sat32 (absI (-3)) = 3)
    (e0 : a + b = n0) (e1 : a - b = n1) (e2 : sat32 n0 = x0) (e3 : sat32 n1 = x1) (e4 : b + a = n0) (e5 : sat32 (-b) = p)
    (t0 : Hid (Third n0 x0)) (t1 : Hid (Third n1 x1)) (h0 : -4294967296 ≤ n0 ∧ n0 ≤ 4294967296) (h1 : -4294967296 ≤ n1 ∧ n1 ≤ 4294967296)
    (h : (b == -2147483648) = true ∨ ((b == -2147483648) = false ∧ sat32 (a + p) = x1)) :
    Calls Try.prog 9 #[.int .i32 a, .int .i32 b] w fun e w' => e = .returned (.bool true) ∧ Below w.heap.size w w' := by
  go_enter Try.func9, Try.ntmps9
  go_wp2_with (first | (go_at_call 23; refine (add_any _ _ (by omega) (by omega) _).mono ?_; rintro e w' ⟨rfl, rfl⟩) | (go_at_call 24; refine (sub_any _ _ (by omega) (by omega) _).mono ?_; rintro e w' ⟨rfl, rfl⟩) | (go_at_call 25; refine (neg_any _ (by omega) _).mono ?_; rintro e w' ⟨rfl, rfl⟩) | (go_at_call 26; refine (abs_any _ (by omega) _).mono ?_; rintro e w' ⟨rfl, rfl⟩))
  go_loopw [34] (fun i wr => ∃ k : Nat, k ≤ 2 ∧ i = .int .i64 k ∧ Below w.heap.size w wr ∧ w.heap.size < wr.heap.size ∧ wr.cell? ⟨w.heap.size, 0, none⟩ = some (.int .i64 n0) ∧ wr.cell? ⟨w.heap.size, 1, none⟩ = some (.int .i64 n1)) (fun i _ => 2 - (intOf i).toNat)
  case atStart => exact ⟨0, by omega, rfl, (Below.refl _ _).alloc (Nat.le_refl _) _, by simp, by simp [World.cell?_alloc_new], by simp [World.cell?_alloc_new]⟩
  case round =>
    obtain ⟨k, hk, rfl, hb', hsz, hc0, hc1⟩ := hrel
    rcases (by omega : k = 0 ∨ k = 1 ∨ k = 2) with rfl | rfl | rfl
    · rcases t0.out with ⟨g, g', g''⟩ | ⟨g, g'⟩ | ⟨g, g'⟩
      all_goals
        go_wp2_with (first | (go_at_call 23; refine (add_any _ _ (by omega) (by omega) _).mono ?_; rintro e w' ⟨rfl, rfl⟩) | (go_at_call 24; refine (sub_any _ _ (by omega) (by omega) _).mono ?_; rintro e w' ⟨rfl, rfl⟩) | (go_at_call 25; refine (neg_any _ (by omega) _).mono ?_; rintro e w' ⟨rfl, rfl⟩) | (go_at_call 26; refine (abs_any _ (by omega) _).mono ?_; rintro e w' ⟨rfl, rfl⟩))
        go_roundw
        case rel => exact ⟨1, by omega, by go_num, hb'.alloc (by omega) _, by simp; omega, ((Below.refl (w.heap.size + 1) wr).alloc (by omega) _).cell (by simp) |>.trans hc0, ((Below.refl (w.heap.size + 1) wr).alloc (by omega) _).cell (by simp) |>.trans hc1⟩
        case measure => simp [intOf]
    · rcases t1.out with ⟨g, g', g''⟩ | ⟨g, g'⟩ | ⟨g, g'⟩
      all_goals
        go_wp2_with (first | (go_at_call 23; refine (add_any _ _ (by omega) (by omega) _).mono ?_; rintro e w' ⟨rfl, rfl⟩) | (go_at_call 24; refine (sub_any _ _ (by omega) (by omega) _).mono ?_; rintro e w' ⟨rfl, rfl⟩) | (go_at_call 25; refine (neg_any _ (by omega) _).mono ?_; rintro e w' ⟨rfl, rfl⟩) | (go_at_call 26; refine (abs_any _ (by omega) _).mono ?_; rintro e w' ⟨rfl, rfl⟩))
        go_roundw
        case rel => exact ⟨2, by omega, by go_num, hb'.alloc (by omega) _, by simp; omega, ((Below.refl (w.heap.size + 1) wr).alloc (by omega) _).cell (by simp) |>.trans hc0, ((Below.refl (w.heap.size + 1) wr).alloc (by omega) _).cell (by simp) |>.trans hc1⟩
        case measure => simp [intOf]
    · rcases h with h | ⟨h, h'⟩
      all_goals
        go_wp2_with (first | (go_at_call 23; refine (add_any _ _ (by omega) (by omega) _).mono ?_; rintro e w' ⟨rfl, rfl⟩) | (go_at_call 24; refine (sub_any _ _ (by omega) (by omega) _).mono ?_; rintro e w' ⟨rfl, rfl⟩) | (go_at_call 25; refine (neg_any _ (by omega) _).mono ?_; rintro e w' ⟨rfl, rfl⟩) | (go_at_call 26; refine (abs_any _ (by omega) _).mono ?_; rintro e w' ⟨rfl, rfl⟩))
        go_ret
        exact ⟨ret_bool (by first | rfl | simpa), hb'⟩
theorem law (a b : Int) (w : World) (ha : -2147483648 ≤ a ∧ a ≤ 2147483647) (hb : -2147483648 ≤ b ∧ b ≤ 2147483647) :
    Calls Try.prog 9 #[.int .i32 a, .int .i32 b] w fun e w' => e = .returned (.bool true) ∧ Below w.heap.size w w' := by
  refine way a b (a + b) (a - b) _ _ (sat32 (-b)) w ha hb (sat32_bd _) (sat32_bd _) (sat32_bd _) (by decide) (by decide) (by decide) rfl rfl rfl rfl (Int.add_comm b a) rfl (third _) (third _) (by omega) (by omega) ?_
  by_cases h : b = -2147483648
  · exact .inl (by simpa using h)
  · refine .inr ⟨by simpa using h, ?_⟩
    unfold sat32; omega
set_option maxRecDepth 100000 in
theorem lifted (os : Os) (started : os.Started) (H : Type) (enc : TypeId × Value → H) :
    ReturnsInHanded {} Try.checked os 9 .any (Rows.satExactSpec.pre6 enc Try.prog Try.f9 Rows.satExactRow.domain false) (Rows.satExactSpec.post enc Try.prog Try.f9 false true false false) := by
  refine returnsInHanded_of_change (C := Try.checked) own started (by kernel_rfl) Try.func9
    (ChangeSpec.witness6 (enc := enc) (C := Try.checked) false ⟨#[], #[.int .i32 0, .int .i32 0], []⟩ 8 (by kernel_rfl) (by kernel_rfl) (by kernel_rfl) (by kernel_rfl)) ?_
  intro W base args ds gs before hval0 hW hcnd _
  have hval : ∀ (j : Nat) t v, Try.f9.params[j]? = some t → args[j]? = some v → Value.okWide Try.prog W .any base t v := hval0
  have hW' := hW
  obtain ⟨p, q, hA0, hV, rfl, hfz, hnd⟩ := hW
  have hA : DataW.TrodAll enc Try.prog W 0 (fun _ => true) true Try.f9.params.toList args.toList ds p := hA0
  rw [Try.params9] at hA hval
  obtain ⟨v0, vs0, d0, ds0, p0, q0, hargs, rfl, rfl, h0, r0⟩ := trodAll_cons hA
  obtain ⟨v1, vs1, d1, ds1, p1, q1, rfl, rfl, rfl, h1, r1⟩ := trodAll_cons r0
  obtain ⟨rfl, rfl, rfl⟩ := trodAll_nil r1
  obtain rfl : args = #[v0, v1] := by cases args; simp_all
  obtain ⟨rfl, rfl⟩ := trodVars_none hV
  have k0 := h0
  have lt0 : ∀ x ∈ p0, x.block < W.heap.size := by obtain ⟨m, hm⟩ := k0; exact DataW.trod_lt m _ _ _ hm
  have k1 := h1
  have lt1 : ∀ x ∈ p1, x.block < W.heap.size := by obtain ⟨m, hm⟩ := k1; exact DataW.trod_lt m _ _ _ hm
  obtain ⟨a0, rfl, rfl, rfl, w0⟩ := open_int Try.underlying21 (hval 0 21 v0 rfl rfl) h0
  obtain ⟨a1, rfl, rfl, rfl, w1⟩ := open_int Try.underlying21 (hval 1 21 v1 rfl rfl) h1
  clear hA0 hval0
  refine (law a0 a1 W (bounds_i32 w0) (bounds_i32 w1)).mono fun e W' ⟨he, bel⟩ => ?_
  subst he
  exact ⟨_, rfl, _, _, _, [], _, [], hW', trodAll_mk1 (shut_bool Try.underlying4 _), (trodAll_cons_mk (Below.trod laidOut (by kernel_rfl) (of_decide_eq_true (by kernel_rfl)) k0 bel lt0) (trodAll_cons_mk (Below.trod laidOut (by kernel_rfl) (of_decide_eq_true (by kernel_rfl)) k1 bel lt1) trodAll_mk0)), rfl, bel.frame _, fun h => by cases h⟩
theorem over : Rows.satExactRow.holds Try.pinned (OpenSpec.ofChange Rows.satExactSpec) :=
  OpenClaim.holds_of_wide 9 Try.f9 rfl rfl rfl rfl rfl rfl rfl ⟨rfl, rfl, rfl, rfl, rfl⟩ rfl rfl rfl rfl rfl (by kernel_rfl) Try.func9 (by kernel_rfl)
    (of_decide_eq_true (by kernel_rfl)) (by unfold Func.isWrapper; first | (rw [if_pos (by decide +kernel)]; kernel_rfl) | (rw [if_neg (by decide +kernel)]; exact ⟨rfl, rfl⟩))
    (fun os started H enc _ => lifted os started H enc)
theorem proved : Rows.SatExactSaid := over
#print axioms proved

end Go.Proofs.Ytfgpcjfkkonkhaa.satExact
