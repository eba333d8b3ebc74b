/- The checksum as a plain function on lists of numbers below 256, and that it is affine with respect to exclusive or. No program in sight. -/
namespace Go.Proofs.Ytglagndpholejaa
def crcBit (c : Nat) : Nat := if c / 32768 % 2 = 1 then (c * 2 % 65536) ^^^ 4129 else c * 2 % 65536
def crcBits : Nat → Nat → Nat
  | 0, c => c
  | n + 1, c => crcBit (crcBits n c)
def crcRow (b : Nat) : Nat := crcBits 8 (b * 256)
def crcStep (c x : Nat) : Nat := (c * 256 % 65536) ^^^ crcRow ((c / 256) ^^^ x)
def crcFrom (c : Nat) (l : List Nat) : Nat := l.foldl crcStep c
def crcSum (l : List Nat) : Nat := crcFrom 65535 l

theorem xor_shift (a b i : Nat) : (a ^^^ b) * 2 ^ i = (a * 2 ^ i) ^^^ (b * 2 ^ i) := by
  rw [← Nat.shiftLeft_eq, ← Nat.shiftLeft_eq, ← Nat.shiftLeft_eq, Nat.shiftLeft_xor_distrib]
theorem xor_swap (a b c d : Nat) : (a ^^^ b) ^^^ (c ^^^ d) = (a ^^^ c) ^^^ (b ^^^ d) := by
  rw [Nat.xor_assoc, Nat.xor_assoc, ← Nat.xor_assoc b, ← Nat.xor_assoc c, Nat.xor_comm b c]
theorem crcBit_lt (c : Nat) : crcBit c < 65536 := by
  unfold crcBit; split
  · exact Nat.xor_lt_two_pow (n := 16) (by omega) (by omega)
  · omega
theorem crcBits_lt (n c : Nat) (h : c < 65536) : crcBits n c < 65536 := by
  cases n with
  | zero => exact h
  | succ n => exact crcBit_lt _
theorem crcRow_lt (b : Nat) (h : b < 256) : crcRow b < 65536 := crcBits_lt 8 _ (by omega)
theorem crcStep_lt (c x : Nat) (hc : c < 65536) (hx : x < 256) : crcStep c x < 65536 := by
  unfold crcStep
  exact Nat.xor_lt_two_pow (n := 16) (by omega) (crcRow_lt _ (Nat.xor_lt_two_pow (n := 8) (by omega) (by omega)))
theorem crcFrom_lt (l : List Nat) (c : Nat) (hc : c < 65536) (hl : ∀ x ∈ l, x < 256) : crcFrom c l < 65536 := by
  induction l generalizing c with
  | nil => exact hc
  | cons x l ih => exact ih _ (crcStep_lt c x hc (hl x (List.mem_cons_self))) (fun y hy => hl y (List.mem_cons_of_mem _ hy))
theorem crcBit_xor (x y : Nat) : crcBit (x ^^^ y) = crcBit x ^^^ crcBit y := by
  have h1 : (x ^^^ y) / 32768 % 2 = (x / 32768 % 2) ^^^ (y / 32768 % 2) := by
    have := Nat.xor_div_two_pow (a := x) (b := y) (n := 15)
    rw [show (2 : Nat) ^ 15 = 32768 from rfl] at this
    rw [this]
    exact Nat.xor_mod_two_pow (n := 1)
  have h2 : (x ^^^ y) * 2 % 65536 = (x * 2 % 65536) ^^^ (y * 2 % 65536) := by
    have h3 := xor_shift x y 1
    rw [show (2 : Nat) ^ 1 = 2 from rfl] at h3
    rw [h3]
    exact Nat.xor_mod_two_pow (n := 16)
  unfold crcBit
  rw [h1, h2]
  generalize x * 2 % 65536 = p
  generalize y * 2 % 65536 = q
  rcases Nat.mod_two_eq_zero_or_one (x / 32768) with hx | hx <;> rcases Nat.mod_two_eq_zero_or_one (y / 32768) with hy | hy
  all_goals rw [hx, hy]
  · rw [if_neg (by decide), if_neg (by decide), if_neg (by decide)]
  · rw [if_pos (by decide), if_neg (by decide), if_pos (by decide), Nat.xor_assoc]
  · rw [if_pos (by decide), if_pos (by decide), if_neg (by decide), Nat.xor_assoc, Nat.xor_comm q, ← Nat.xor_assoc]
  · rw [if_neg (by decide), if_pos (by decide), if_pos (by decide), xor_swap, Nat.xor_self, Nat.xor_zero]
theorem crcBits_xor (n x y : Nat) : crcBits n (x ^^^ y) = crcBits n x ^^^ crcBits n y := by
  induction n with
  | zero => rfl
  | succ n ih => simp only [crcBits]; rw [ih, crcBit_xor]
theorem crcRow_xor (x y : Nat) : crcRow (x ^^^ y) = crcRow x ^^^ crcRow y := by
  unfold crcRow
  rw [show 256 = 2 ^ 8 from rfl, xor_shift, crcBits_xor]
theorem crcStep_xor (c d x y : Nat) : crcStep (c ^^^ d) (x ^^^ y) = crcStep c x ^^^ crcStep d y := by
  unfold crcStep
  have h1 : (c ^^^ d) * 256 % 65536 = (c * 256 % 65536) ^^^ (d * 256 % 65536) := by
    rw [show 256 = 2 ^ 8 from rfl, xor_shift]; exact Nat.xor_mod_two_pow (n := 16)
  have h2 : (c ^^^ d) / 256 = (c / 256) ^^^ (d / 256) := Nat.xor_div_two_pow (n := 8)
  rw [h1, h2, xor_swap (c / 256) (d / 256) x y, crcRow_xor, xor_swap]
def xor3 (a b c : Nat) : Nat := a ^^^ b ^^^ c
def zip3 : List Nat → List Nat → List Nat → List Nat
  | a :: l, b :: m, c :: n => xor3 a b c :: zip3 l m n
  | _, _, _ => []
theorem crcFrom_xor3 (l m n : List Nat) (p q r : Nat) (h1 : l.length = m.length) (h2 : m.length = n.length) :
    crcFrom (xor3 p q r) (zip3 l m n) = xor3 (crcFrom p l) (crcFrom q m) (crcFrom r n) := by
  induction l generalizing m n p q r with
  | nil =>
    obtain rfl := List.length_eq_zero_iff.1 h1.symm
    obtain rfl := List.length_eq_zero_iff.1 h2.symm
    rfl
  | cons a l ih =>
    match m, n, h1, h2 with
    | b :: m, c :: n, h1, h2 =>
      simp only [List.length_cons, Nat.add_right_cancel_iff] at h1 h2
      have := ih m n (crcStep p a) (crcStep q b) (crcStep r c) h1 h2
      simp only [crcFrom, zip3, List.foldl_cons] at this ⊢
      rw [← this]
      congr 1
      unfold xor3
      rw [crcStep_xor, crcStep_xor]
theorem crcSum_xor3 (l m n : List Nat) (h1 : l.length = m.length) (h2 : m.length = n.length) : crcSum (zip3 l m n) = xor3 (crcSum l) (crcSum m) (crcSum n) :=
  crcFrom_xor3 l m n 65535 65535 65535 h1 h2
end Go.Proofs.Ytglagndpholejaa
