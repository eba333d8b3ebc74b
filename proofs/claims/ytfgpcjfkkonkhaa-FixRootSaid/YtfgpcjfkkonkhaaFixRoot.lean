/- FixRoot: whatever the number is, the law answers true and leaves memory as it was. -/
import Derived.Test.YtfgpcjfkkonkhaaFix
import Derived.Lib.Hide
namespace Go.Proofs.Ytfgpcjfkkonkhaa.fixRoot
open Go.ChangeShapes Go.WideShapes Go.ChangeAt Go.RowKit Go.Proofs.Ytfgpcjfkkonkhaa Go.Proofs.Ytfgpcjfkkonkhaa.Open
set_option linter.unusedVariables false
/-- the root of a number that is not below 0, by its square -/
def IsRoot (a r : Int) : Prop := 0 ≤ r ∧ r ≤ 16777216 ∧ r * r ≤ a * 65536 ∧ a * 65536 < (r + 1) * (r + 1)
def RootPost (a : Int) (w : World) (e : Ending) (w' : World) : Prop := ∃ r, e = .returned (.tuple #[.int .i32 r, .int .i64 0]) ∧ w = w' ∧ IsRoot a r
theorem heron (n r : Int) (hr : 1 ≤ r) (hn : 0 ≤ n) :
    (r ≤ (r + n / r) / 2 → r * r ≤ n) ∧ n < ((r + n / r) / 2 + 1) * ((r + n / r) / 2 + 1) := by
  have h1 : r * (n / r) + n % r = n := Int.mul_ediv_add_emod n r
  have h2 := Int.emod_nonneg n (by omega : r ≠ 0)
  have h3 := Int.emod_lt_of_pos n (by omega : 0 < r)
  have h4 := Int.ediv_nonneg hn (by omega : 0 ≤ r)
  generalize n / r = q at *
  generalize n % r = t at *
  constructor
  · intro h
    have : r ≤ q := by omega
    have := Int.mul_le_mul_of_nonneg_left this (by omega : 0 ≤ r)
    omega
  · generalize hm : (r + q) / 2 = m
    have h5 : r + q + 1 ≤ 2 * (m + 1) := by omega
    have h6 : (r + q + 1) * (r + q + 1) ≤ (2 * (m + 1)) * (2 * (m + 1)) := Int.mul_le_mul h5 h5 (by omega) (by omega)
    have h7 : 0 ≤ (r - (q + 1)) * (r - (q + 1)) := by
      rcases Int.le_total 0 (r - (q + 1)) with h | h
      · exact Int.mul_nonneg h h
      · have := Int.mul_nonneg (by omega : 0 ≤ -(r - (q + 1))) (by omega : 0 ≤ -(r - (q + 1))); rwa [Int.neg_mul_neg] at this
    have e1 : (r + q + 1) * (r + q + 1) = r * r + q * q + 2 * (r * q) + 2 * r + 2 * q + 1 := by
      simp only [Int.add_mul, Int.mul_add, Int.mul_one, Int.one_mul]; rw [Int.mul_comm q r]; omega
    have e2 : (r - (q + 1)) * (r - (q + 1)) = r * r + q * q - 2 * (r * q) - 2 * r + 2 * q + 1 := by
      simp only [Int.sub_mul, Int.mul_sub, Int.add_mul, Int.mul_add, Int.mul_one, Int.one_mul]; rw [Int.mul_comm q r]; omega
    have e3 : (2 * (m + 1)) * (2 * (m + 1)) = 4 * ((m + 1) * (m + 1)) := by
      rw [Int.mul_assoc, Int.mul_left_comm (m + 1) 2 (m + 1)]; omega
    omega
set_option maxHeartbeats 1000000 in
theorem sqrt_pos (a : Int) (w : World) (ha : 1 ≤ a ∧ a ≤ 2147483647) :
    Calls Try.prog 20 #[.int .i32 a] w (RootPost a w) := by
  have h0 : ((a * 65536) == 0) = false := by simp; omega
  go_enter Try.func20, Try.ntmps20
  go_wp2
  go_loop [5] (fun v => ∃ r : Int, v = .int .i64 r ∧ 1 ≤ r ∧ r ≤ 16777216 ∧ Hid (a * 65536 < (r + 1) * (r + 1))) (fun v => (intOf v).toNat)
  case atStart => exact ⟨16777216, rfl, by omega, by omega, by unfold Hid; omega⟩
  case round =>
    obtain ⟨r, rfl, hr1, hr2, hr3⟩ := hrel
    have hh := heron (a * 65536) r hr1 (by omega)
    have hq : 0 ≤ a * 65536 / r ∧ a * 65536 / r ≤ a * 65536 := ⟨Int.ediv_nonneg (by omega) (by omega), Int.ediv_le_self _ (by omega)⟩
    have hz : r = 1 → a * 65536 / r = a * 65536 := by rintro rfl; simp
    have HH := Lib.hid hh; have HZ := Lib.hid hz
    clear hh hz
    have hr0 : (r == 0) = false := by simp; omega
    by_cases c : r ≤ (r + a * 65536 / r) / 2
    · go_wp2
      go_ret2
      exact ⟨r, rfl, rfl, by omega, hr2, HH.out.1 c, hr3.out⟩
    · have c' : (r + a * 65536 / r) / 2 < r := by omega
      clear c
      go_wp2
      go_round
      case rel => exact ⟨_, rfl, by have := HZ.out; omega, by omega, HH.out.2⟩
      case measure => simp [intOf]; omega
theorem sqrt_zero (w : World) :
    Calls Try.prog 20 #[.int .i32 0] w fun e w' => e = .returned (.tuple #[.int .i32 0, .int .i64 0]) ∧ w = w' := by
  go_enter Try.func20, Try.ntmps20
  go_wp2
  go_ret2
  exact ⟨rfl, rfl⟩
theorem sqrt_neg (a : Int) (w : World) (ha : a < 0) :
    Calls Try.prog 20 #[.int .i32 a] w fun e w' => e = .returned (.tuple #[.int .i32 0, .int .i64 1]) ∧ w = w' := by
  go_enter Try.func20, Try.ntmps20
  go_wp2
  go_ret2
  exact ⟨rfl, rfl⟩
/-- what Sqrt answers: the root, or an error -/
def SqrtPost (a : Int) (w : World) (e : Ending) (w' : World) : Prop :=
  ∃ r c : Int, e = .returned (.tuple #[.int .i32 r, .int .i64 c]) ∧ w = w' ∧ ((a < 0 ∧ r = 0 ∧ c = 1) ∨ (0 ≤ a ∧ c = 0 ∧ IsRoot a r))
theorem sqrt_any (a : Int) (w : World) (ha : -2147483648 ≤ a ∧ a ≤ 2147483647) :
    Calls Try.prog 20 #[.int .i32 a] w (SqrtPost a w) := by
  rcases (by omega : a < 0 ∨ a = 0 ∨ 0 < a) with h | rfl | h
  · exact (sqrt_neg a w h).mono fun e w' ⟨h1, h2⟩ => ⟨0, 1, h1, h2, .inl ⟨h, rfl, rfl⟩⟩
  · exact (sqrt_zero w).mono fun e w' ⟨h1, h2⟩ => ⟨0, 0, h1, h2, .inr ⟨by omega, rfl, by unfold IsRoot; omega⟩⟩
  · exact (sqrt_pos a w (by omega)).mono fun e w' ⟨r, h1, h2, h3⟩ => ⟨r, 0, h1, h2, .inr ⟨by omega, rfl, h3⟩⟩
theorem root_four (r : Int) (h : IsRoot 262144 r) : r = 131072 := by
  obtain ⟨h1, h2, h3, h4⟩ := h
  rcases (by omega : r < 131072 ∨ r = 131072 ∨ 131072 < r) with g | g | g
  · have := Int.mul_le_mul (a := r + 1) (b := r + 1) (c := 131072) (d := 131072) (by omega) (by omega) (by omega) (by omega); omega
  · exact g
  · have := Int.mul_le_mul (a := 131073) (b := 131073) (c := r) (d := r) (by omega) (by omega) (by omega) (by omega); omega
set_option maxHeartbeats 1000000 in
set_option maxRecDepth 100000 in
theorem law (a : Int) (w : World) (ha : -2147483648 ≤ a ∧ a ≤ 2147483647) :
    Calls Try.prog 7 #[.int .i32 a] w fun e w' => e = .returned (.bool true) ∧ Below w.heap.size w w' := by
  go_enter Try.func7, Try.ntmps7
  go_wp2_with fail
  refine (sqrt_any 262144 _ (by omega)).mono ?_
  rintro e w' ⟨r0, c0, rfl, rfl, h⟩
  obtain ⟨rfl, rfl⟩ : r0 = 131072 ∧ c0 = 0 := by
    rcases h with ⟨h, _⟩ | ⟨_, h, h'⟩
    · omega
    · exact ⟨root_four r0 h', h⟩
  clear h
  go_wp2_with fail
  refine (sqrt_any a _ ha).mono ?_
  rintro e w' ⟨r, c, rfl, rfl, h⟩
  rcases h with ⟨h, rfl, rfl⟩ | ⟨h, rfl, h1, h2, h3, h4⟩
  · go_wp2
    go_ret
    exact ⟨ret_bool rfl, Below.refl _ _⟩
  · have g1 : 0 ≤ r * r := Int.mul_nonneg h1 h1
    have g2 : (r + 1) * (r + 1) ≤ 16777217 * 16777217 := Int.mul_le_mul (by omega) (by omega) (by omega) (by omega)
    go_wp2
    go_ret
    exact ⟨ret_bool (by first | rfl | simpa | (simp; omega)), Below.refl _ _⟩
set_option maxRecDepth 100000 in
theorem lifted (os : Os) (started : os.Started) (H : Type) (enc : TypeId × Value → H) :
    ReturnsInHanded {} Try.checked os 7 .any (Rows.fixRootSpec.pre6 enc Try.prog Try.f7 Rows.fixRootRow.domain false) (Rows.fixRootSpec.post enc Try.prog Try.f7 false true false false) := by
  refine returnsInHanded_of_change (C := Try.checked) own started (by kernel_rfl) Try.func7
    (ChangeSpec.witness6 (enc := enc) (C := Try.checked) false ⟨#[], #[.int .i32 0], []⟩ 8 (by kernel_rfl) (by kernel_rfl) (by kernel_rfl) (by kernel_rfl)) ?_
  intro W base args ds gs before hval0 hW hcnd _
  have hval : ∀ (j : Nat) t v, Try.f7.params[j]? = some t → args[j]? = some v → Value.okWide Try.prog W .any base t v := hval0
  have hW' := hW
  obtain ⟨p, q, hA0, hV, rfl, hfz, hnd⟩ := hW
  have hA : DataW.TrodAll enc Try.prog W 0 (fun _ => true) true Try.f7.params.toList args.toList ds p := hA0
  rw [Try.params7] at hA hval
  obtain ⟨v0, vs0, d0, ds0, p0, q0, hargs, rfl, rfl, h0, r0⟩ := trodAll_cons hA
  obtain ⟨rfl, rfl, rfl⟩ := trodAll_nil r0
  obtain rfl : args = #[v0] := by cases args; simp_all
  obtain ⟨rfl, rfl⟩ := trodVars_none hV
  have k0 := h0
  have lt0 : ∀ x ∈ p0, x.block < W.heap.size := by obtain ⟨m, hm⟩ := k0; exact DataW.trod_lt m _ _ _ hm
  obtain ⟨a0, rfl, rfl, rfl, w0⟩ := open_int Try.underlying21 (hval 0 21 v0 rfl rfl) h0
  clear hA0 hval0
  refine (law a0 W (bounds_i32 w0)).mono fun e W' ⟨he, bel⟩ => ?_
  subst he
  exact ⟨_, rfl, _, _, _, [], _, [], hW', trodAll_mk1 (shut_bool Try.underlying4 _), (trodAll_cons_mk (Below.trod laidOut (by kernel_rfl) (of_decide_eq_true (by kernel_rfl)) k0 bel lt0) trodAll_mk0), rfl, bel.frame _, fun h => by cases h⟩
theorem over : Rows.fixRootRow.holds Try.pinned (OpenSpec.ofChange Rows.fixRootSpec) :=
  OpenClaim.holds_of_wide 7 Try.f7 rfl rfl rfl rfl rfl rfl rfl ⟨rfl, rfl, rfl, rfl, rfl⟩ rfl rfl rfl rfl rfl (by kernel_rfl) Try.func7 (by kernel_rfl)
    (of_decide_eq_true (by kernel_rfl)) (by unfold Func.isWrapper; first | (rw [if_pos (by decide +kernel)]; kernel_rfl) | (rw [if_neg (by decide +kernel)]; exact ⟨rfl, rfl⟩))
    (fun os started H enc _ => lifted os started H enc)
theorem proved : Rows.FixRootSaid := over
#print axioms proved

end Go.Proofs.Ytfgpcjfkkonkhaa.fixRoot
