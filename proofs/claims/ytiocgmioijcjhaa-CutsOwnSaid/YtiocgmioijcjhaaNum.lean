/- Plain numbers: what the functions on numbers of 32 bits compute. No program in sight. -/
import Derived.WalkKit
import Derived.Deep.QuietTactic
import Derived.BigQuiet
namespace Go.Proofs.Ytiocgmioijcjhaa
theorem ret_int {k : IntKind} {a b : Int} (h : a = b) : Ending.returned (.int k a) = .returned (.int k b) := by rw [h]
theorem ret_bool {a b : Bool} (h : a = b) : Ending.returned (.bool a) = .returned (.bool b) := by rw [h]
theorem ret_pair {k l : IntKind} {a b c d : Int} (h : a = b) (g : c = d) : Ending.returned (.tuple #[.int k a, .int l c]) = .returned (.tuple #[.int k b, .int l d]) := by rw [h, g]

/-- a quiet callee whose contract says that the world is as it was: in a first region, and in one behind another -/
theorem quietL {P : Program} {f : FuncId} {args : Array Value} {w : World} {n : Nat} {v : Value} (h : Calls P f args (w.drewN n) fun e w' => e = .returned v ∧ w.drewN n = w') :
    Calls P f args (w.drewN n) fun e w'' => e = .returned v ∧ ∃ m, w'' = w.drewN m := h.mono fun _ _ h1 => ⟨h1.1, n, h1.2.symm⟩
theorem quietL2 {P : Program} {f : FuncId} {args : Array Value} {w : World} {a n : Nat} {v : Value} (h : Calls P f args (w.drewN (a + n)) fun e w' => e = .returned v ∧ w.drewN (a + n) = w') :
    Calls P f args (w.drewN (a + n)) fun e w'' => e = .returned v ∧ ∃ m, w'' = w.drewN (a + m) := h.mono fun _ _ h1 => ⟨h1.1, n, h1.2.symm⟩

theorem stillL {P : Program} {f : FuncId} {args : Array Value} {w : World} {v : Value} (h : Calls P f args w fun e w' => e = .returned v ∧ w = w') :
    Calls P f args w fun e w'' => e = .returned v ∧ w'' = w := h.mono fun _ _ h1 => ⟨h1.1, h1.2.symm⟩

def sat32 (n : Int) : Int := max (-2147483648) (min n 2147483647)
theorem sat32_bd (n : Int) : -2147483648 ≤ sat32 n ∧ sat32 n ≤ 2147483647 := by unfold sat32; omega
theorem sat32_in (n : Int) (h : -2147483648 ≤ n ∧ n ≤ 2147483647) : sat32 n = n := by unfold sat32; omega
theorem sat32_mono {a b : Int} (h : a ≤ b) : sat32 a ≤ sat32 b := by unfold sat32; omega

def clampI (a b c : Int) : Int := max (min b c) (min a (max b c))
theorem clampI_bd (a b c : Int) (ha : -2147483648 ≤ a ∧ a ≤ 2147483647) (hb : -2147483648 ≤ b ∧ b ≤ 2147483647) (hc : -2147483648 ≤ c ∧ c ≤ 2147483647) :
    -2147483648 ≤ clampI a b c ∧ clampI a b c ≤ 2147483647 := by unfold clampI; omega

def absI (n : Int) : Int := max n (-n)
theorem absI_bd (n : Int) : 0 ≤ absI n := by unfold absI; omega
/-- how far two numbers are from each other -/
def apartI (a b : Int) : Int := absI (a - b)
theorem apartI_bd (a b : Int) (ha : -2147483648 ≤ a ∧ a ≤ 2147483647) (hb : -2147483648 ≤ b ∧ b ≤ 2147483647) : 0 ≤ apartI a b ∧ apartI a b ≤ 4294967295 := by
  unfold apartI absI; omega

theorem mul_bd (a b : Int) (ha : -2147483648 ≤ a ∧ a ≤ 2147483647) (hb : -2147483648 ≤ b ∧ b ≤ 2147483647) : -4611686018427387904 ≤ a * b ∧ a * b ≤ 4611686018427387904 := by
  have h1 : (a * b).natAbs ≤ 2147483648 * 2147483648 := by
    rw [Int.natAbs_mul]; exact Nat.mul_le_mul (by omega) (by omega)
  omega
def nearI (n : Int) : Int := (n + 32768) / 65536
def mulI (a b : Int) : Int := sat32 (nearI (a * b))
def divI (a b : Int) : Int := if b ≠ 0 then sat32 ((a * 65536).tdiv b) else if 0 < a then 2147483647 else if a < 0 then -2147483648 else 0
theorem mulI_bd (a b : Int) : -2147483648 ≤ mulI a b ∧ mulI a b ≤ 2147483647 := sat32_bd _
theorem divI_bd (a b : Int) : -2147483648 ≤ divI a b ∧ divI a b ≤ 2147483647 := by
  unfold divI; split
  · exact sat32_bd _
  · split
    · omega
    · split <;> omega
theorem tdiv_bd (a b : Int) : -absI a ≤ a.tdiv b ∧ a.tdiv b ≤ absI a := by
  have h := Int.natAbs_tdiv_le_natAbs a b
  unfold absI; omega
def restI (a n : Int) : Int := if n ≤ 0 then 0 else ((a.tmod n) + n).tmod n
theorem tmod_bd (a n : Int) (hn : 0 < n) : -n < a.tmod n ∧ a.tmod n < n := by
  exact ⟨Int.lt_tmod_of_pos a hn, Int.tmod_lt_of_pos a hn⟩
theorem restI_eq (a n : Int) (hn : 0 < n) : restI a n = a % n := by
  unfold restI
  rw [if_neg (by omega)]
  have h := tmod_bd a n hn
  rw [Int.tmod_eq_emod_of_nonneg (a := a.tmod n + n) (by omega), Int.add_emod_right]
  have h2 : a = n * (a.tdiv n) + a.tmod n := (Int.mul_tdiv_add_tmod a n).symm
  conv => rhs; rw [h2]
  rw [Int.mul_add_emod_self_left]
theorem restI_bd (a n : Int) (hn : 0 < n) : 0 ≤ restI a n ∧ restI a n < n := by
  rw [restI_eq a n hn]; exact ⟨Int.emod_nonneg _ (by omega), Int.emod_lt_of_pos _ hn⟩
theorem tdiv_pos_bd (d p : Int) (hp : 1 ≤ p) (hd : 0 ≤ d) : 0 ≤ d.tdiv p ∧ d.tdiv p ≤ d := by
  have h := tdiv_bd d p
  have h2 := Int.tdiv_nonneg (a := d) (b := p) hd (by omega)
  unfold absI at h; omega
theorem tdiv_neg_bd (d p : Int) (hp : 1 ≤ p) (hd : d ≤ 0) : d ≤ d.tdiv p ∧ d.tdiv p ≤ 0 := by
  have h := tdiv_pos_bd (-d) p hp (by omega)
  rw [Int.neg_tdiv] at h; omega
theorem two_pow_bd (k : Int) (hk : 0 ≤ k ∧ k ≤ 30) : 1 ≤ (2 : Int) ^ k.toNat ∧ (2 : Int) ^ k.toNat ≤ 1073741824 := by
  have h1 : 2 ^ k.toNat ≤ 2 ^ 30 := Nat.pow_le_pow_right (by omega) (by omega)
  have h2 : 0 < 2 ^ k.toNat := Nat.pow_pos (by omega)
  have h3 : ((2 ^ k.toNat : Nat) : Int) = (2 : Int) ^ k.toNat := by simp
  omega
/-- a step of a filter: a part of the way, or one -/
def towardI (y x p : Int) : Int :=
  if (x - y).tdiv p ≠ 0 then y + (x - y).tdiv p else if y < x then y + 1 else if x < y then y - 1 else y
theorem towardI_bd (y x p : Int) (hp : 1 ≤ p) : min y x ≤ towardI y x p ∧ towardI y x p ≤ max y x := by
  unfold towardI
  by_cases h : 0 ≤ x - y
  · have := tdiv_pos_bd (x - y) p hp h; split <;> (try split) <;> (try split) <;> omega
  · have := tdiv_neg_bd (x - y) p hp (by omega); split <;> (try split) <;> (try split) <;> omega
end Go.Proofs.Ytiocgmioijcjhaa
