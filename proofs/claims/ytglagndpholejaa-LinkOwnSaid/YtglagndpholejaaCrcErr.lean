/- The checksum bit by bit: bursts of at most sixteen bits, two bits and an odd number of bits always change it. No program in sight. -/
import Derived.Test.YtglagndpholejaaCrcNum
namespace Go.Proofs.Ytglagndpholejaa
def feed (c : Nat) (b : Bool) : Nat := crcBit (c ^^^ (if b then 32768 else 0))
def byteBits (x : Nat) : List Bool := [x / 128 % 2 == 1, x / 64 % 2 == 1, x / 32 % 2 == 1, x / 16 % 2 == 1, x / 8 % 2 == 1, x / 4 % 2 == 1, x / 2 % 2 == 1, x % 2 == 1]
def bitsOf (l : List Nat) : List Bool := l.flatMap byteBits
theorem feed_xor (c d : Nat) (a b : Bool) : feed (c ^^^ d) (a ^^ b) = feed c a ^^^ feed d b := by
  unfold feed
  rw [← crcBit_xor]
  congr 1
  cases a <;> cases b <;> simp
  · rw [Nat.xor_assoc]
  · rw [Nat.xor_assoc, Nat.xor_comm d 32768, ← Nat.xor_assoc]
  · rw [xor_swap, Nat.xor_self, Nat.xor_zero]
def zipX : List Bool → List Bool → List Bool
  | a :: l, b :: m => (a ^^ b) :: zipX l m
  | _, _ => []
theorem zipX_length (l m : List Bool) (h : l.length = m.length) : (zipX l m).length = l.length := by
  induction l generalizing m with
  | nil => simp [zipX]
  | cons a l ih =>
    match m, h with
    | b :: m, h => simp only [List.length_cons, Nat.add_right_cancel_iff] at h; simp [zipX, ih m h]
theorem fold_xor (l m : List Bool) (c d : Nat) (h : l.length = m.length) : (zipX l m).foldl feed (c ^^^ d) = l.foldl feed c ^^^ m.foldl feed d := by
  induction l generalizing m c d with
  | nil =>
    obtain rfl := List.length_eq_zero_iff.1 h.symm
    rfl
  | cons a l ih =>
    match m, h with
    | b :: m, h =>
      simp only [List.length_cons, Nat.add_right_cancel_iff] at h
      simp only [zipX, List.foldl_cons, feed_xor]
      exact ih m _ _ h
theorem crcBit_zero : crcBit 0 = 0 := rfl
theorem feed_zero : feed 0 false = 0 := rfl
theorem low8 : ∀ m, m < 256 → crcBits 8 m = m * 256 := by decide +kernel
theorem bits8 : ∀ x, x < 256 → (byteBits x).foldl feed 0 = crcBits 8 (x * 256) := by decide +kernel
theorem crcBits_zero (n : Nat) : crcBits n 0 = 0 := by
  induction n with
  | zero => rfl
  | succ n ih => simp only [crcBits, ih]; rfl
theorem crcBits_add (a b c : Nat) : crcBits (a + b) c = crcBits a (crcBits b c) := by
  induction a with
  | zero => simp [crcBits]
  | succ a ih => rw [Nat.succ_add]; simp only [crcBits, ih]
theorem fold_zeros (n c : Nat) : (List.replicate n false).foldl feed c = crcBits n c := by
  induction n with
  | zero => rfl
  | succ n ih =>
    rw [List.replicate_succ', List.foldl_append, ih]
    simp [feed, crcBits]
theorem split256 (c : Nat) (_h : c < 65536) : c = (c / 256 * 256) ^^^ (c % 256) := by
  apply Nat.eq_of_testBit_eq
  intro i
  rw [Nat.testBit_xor, show (256 : Nat) = 2 ^ 8 from rfl, Nat.testBit_mul_two_pow, Nat.testBit_div_two_pow, Nat.testBit_mod_two_pow]
  by_cases hi : i < 8
  · simp [hi, Nat.not_le.2 hi]
  · simp [hi, Nat.not_lt.1 hi]
theorem step_bits (c x : Nat) (hc : c < 65536) (hx : x < 256) : crcStep c x = (byteBits x).foldl feed c := by
  have h1 := fold_xor (List.replicate 8 false) (byteBits x) c 0 rfl
  have h2 : zipX (List.replicate 8 false) (byteBits x) = byteBits x := by simp [zipX, byteBits, List.replicate]
  rw [h2, Nat.xor_zero, fold_zeros, bits8 x hx] at h1
  rw [h1]
  unfold crcStep crcRow
  have h3 := split256 c hc
  have h4 : c / 256 < 256 := by omega
  have e1 : crcBits 8 c = crcBits 8 (c / 256 * 256) ^^^ c % 256 * 256 := by
    conv => lhs; rw [h3]
    rw [crcBits_xor, low8 (c % 256) (by omega)]
  have e2 : crcBits 8 ((c / 256 ^^^ x) * 256) = crcBits 8 (c / 256 * 256) ^^^ crcBits 8 (x * 256) := by
    rw [show (256 : Nat) = 2 ^ 8 from rfl, xor_shift, crcBits_xor]
  rw [e1, e2, show c * 256 % 65536 = c % 256 * 256 by omega, Nat.xor_comm (c % 256 * 256), Nat.xor_assoc, Nat.xor_assoc, Nat.xor_comm (c % 256 * 256)]
theorem from_bits (l : List Nat) (c : Nat) (hc : c < 65536) (hl : ∀ x ∈ l, x < 256) : crcFrom c l = (bitsOf l).foldl feed c := by
  induction l generalizing c with
  | nil => rfl
  | cons x l ih =>
    have hx := hl x List.mem_cons_self
    have := ih (crcStep c x) (crcStep_lt c x hc hx) (fun y hy => hl y (List.mem_cons_of_mem _ hy))
    simp only [crcFrom, List.foldl_cons] at this ⊢
    rw [this, step_bits c x hc hx]
    simp [bitsOf, List.foldl_append]
/-- what an error does to the checksum -/
def syn (e : List Bool) : Nat := e.foldl feed 0
theorem err (t e : List Bool) (c : Nat) (h : t.length = e.length) : (zipX t e).foldl feed c = t.foldl feed c ^^^ syn e := by
  have := fold_xor t e c 0 h
  rwa [Nat.xor_zero] at this

theorem crcBit_inj (x : Nat) (hx : x < 65536) (h : crcBit x = 0) : x = 0 := by
  unfold crcBit at h
  split at h
  · rename_i h1
    have h2 : x * 2 % 65536 = 4129 := by
      have h3 : (x * 2 % 65536 ^^^ 4129) ^^^ 4129 = 0 ^^^ 4129 := by rw [h]
      rwa [Nat.xor_assoc, Nat.xor_self, Nat.xor_zero, Nat.zero_xor] at h3
    omega
  · omega
theorem crcBits_inj (n x : Nat) (hx : x < 65536) (h : crcBits n x = 0) : x = 0 := by
  induction n with
  | zero => exact h
  | succ n ih => exact ih (crcBit_inj _ (crcBits_lt n x hx) h)
theorem crcBits_comm (n x : Nat) : crcBits n (crcBit x) = crcBit (crcBits n x) := by
  induction n with
  | zero => rfl
  | succ n ih => simp only [crcBits, ih]
/-- a list of bits as a number, the first one the greatest -/
def val : List Bool → Nat
  | [] => 0
  | b :: l => (if b then 2 ^ l.length else 0) + val l
theorem val_lt (l : List Bool) : val l < 2 ^ l.length := by
  induction l with
  | nil => simp [val]
  | cons b l ih => simp only [val, List.length_cons, Nat.pow_succ]; split <;> omega
theorem val_zero (l : List Bool) (h : val l = 0) : l = List.replicate l.length false := by
  induction l with
  | nil => rfl
  | cons b l ih =>
    simp only [val] at h
    have h2 : 0 < 2 ^ l.length := Nat.pow_pos (by omega)
    cases b
    · simp only [Bool.false_eq_true, if_false, Nat.zero_add] at h
      simp only [List.length_cons, List.replicate_succ]
      rw [← ih h]
    · simp only [if_true] at h; omega
theorem xor_high (b : Bool) (v : Nat) (h : v < 32768) : (if b then 32768 else 0) + v = (if b then 32768 else 0) ^^^ v := by
  cases b
  · simp
  · simp only [if_true]
    have h1 := Nat.two_pow_add_eq_or_of_lt (i := 15) (b := v) (by omega) 1
    rw [show (2 : Nat) ^ 15 * 1 = 32768 from rfl] at h1
    rw [h1]
    apply Nat.eq_of_testBit_eq
    intro i
    rw [Nat.testBit_or, Nat.testBit_xor, show (32768 : Nat) = 2 ^ 15 from rfl, Nat.testBit_two_pow]
    by_cases hi : 15 = i
    · subst hi
      rw [Nat.testBit_lt_two_pow (by omega)]; rfl
    · simp [hi]
theorem fold_val (l : List Bool) (c : Nat) (h : l.length ≤ 16) : l.foldl feed c = crcBits l.length (c ^^^ val l * 2 ^ (16 - l.length)) := by
  induction l generalizing c with
  | nil => simp [val, crcBits]
  | cons b l ih =>
    simp only [List.length_cons] at h
    have hv := val_lt l
    have hp : 2 ^ l.length * 2 ^ (15 - l.length) = 32768 := by rw [← Nat.pow_add, show l.length + (15 - l.length) = 15 by omega]
    have hp2 : 2 ^ (16 - l.length) = 2 ^ (15 - l.length) * 2 := by rw [← Nat.pow_succ, show (15 - l.length).succ = 16 - l.length by omega]
    have hlt : val l * 2 ^ (15 - l.length) < 32768 := by rw [← hp]; exact Nat.mul_lt_mul_of_pos_right hv (Nat.pow_pos (by omega))
    have e1 : val (b :: l) * 2 ^ (16 - (l.length + 1)) = (if b then 32768 else 0) ^^^ val l * 2 ^ (15 - l.length) := by
      rw [← xor_high b _ hlt, show 16 - (l.length + 1) = 15 - l.length by omega]
      simp only [val, Nat.add_mul]
      cases b
      · simp
      · simp only [if_true, hp]
    rw [List.foldl_cons, ih (feed c b) (by omega), List.length_cons, e1]
    simp only [crcBits]
    rw [← crcBits_comm]
    congr 1
    rw [← Nat.xor_assoc, crcBit_xor]
    have e2 : crcBit (val l * 2 ^ (15 - l.length)) = val l * 2 ^ (16 - l.length) := by
      rw [hp2, ← Nat.mul_assoc]
      generalize val l * 2 ^ (15 - l.length) = v at hlt
      unfold crcBit
      rw [if_neg (by omega)]
      omega
    rw [e2]
    rfl
theorem syn_lt (e : List Bool) (c : Nat) (hc : c < 65536) : e.foldl feed c < 65536 := by
  induction e generalizing c with
  | nil => exact hc
  | cons b e ih => exact ih _ (crcBit_lt _)
/-- a burst of sixteen bits -/
theorem syn_burst (a r : Nat) (b : List Bool) (hb : b.length = 16) (hne : b ≠ List.replicate 16 false) : syn (List.replicate a false ++ b ++ List.replicate r false) ≠ 0 := by
  intro h
  unfold syn at h
  rw [List.foldl_append, List.foldl_append, fold_zeros, fold_zeros, crcBits_zero] at h
  have h1 := crcBits_inj r _ (syn_lt b 0 (by omega)) h
  rw [fold_val b 0 (by omega), Nat.zero_xor, hb, Nat.sub_self, Nat.pow_zero, Nat.mul_one] at h1
  have h2 := val_lt b
  rw [hb] at h2
  have h3 := crcBits_inj 16 _ h2 h1
  have h4 := val_zero b h3
  rw [hb] at h4
  exact hne h4

/-- whether 2 ^ k steps from c on never come to 32768: 0, or where they come to -/
def scan : Nat → Nat → Nat
  | 0, c => if crcBit c = 32768 then 0 else crcBit c
  | k + 1, c => match scan k c with
    | 0 => 0
    | m + 1 => scan k (m + 1)
theorem scan_ok (k c r : Nat) (h : scan k c = r) (hr : r ≠ 0) : crcBits (2 ^ k) c = r ∧ ∀ d, 1 ≤ d → d ≤ 2 ^ k → crcBits d c ≠ 32768 := by
  induction k generalizing c r with
  | zero =>
    simp only [scan] at h
    split at h
    · exact absurd h.symm hr
    · rename_i h1
      refine ⟨h, fun d h2 h3 => ?_⟩
      obtain rfl : d = 1 := by simp at h3; omega
      exact h1
  | succ k ih =>
    simp only [scan] at h
    cases h1 : scan k c with
    | zero => rw [h1] at h; exact absurd h.symm hr
    | succ m =>
      rw [h1] at h
      simp only at h
      obtain ⟨a1, a2⟩ := ih c (m + 1) h1 (by omega)
      obtain ⟨b1, b2⟩ := ih (m + 1) r h hr
      refine ⟨by rw [show 2 ^ (k + 1) = 2 ^ k + 2 ^ k by omega, crcBits_add, a1, b1], fun d h2 h3 => ?_⟩
      by_cases h4 : d ≤ 2 ^ k
      · exact a2 d h2 h4
      · have h5 := b2 (d - 2 ^ k) (by omega) (by omega)
        rw [← a1, ← crcBits_add, show d - 2 ^ k + 2 ^ k = d by omega] at h5
        exact h5
def scans : List Nat → Nat → Nat
  | [], c => c
  | k :: l, c => match scan k c with
    | 0 => 0
    | m + 1 => scans l (m + 1)
theorem scans_ok (l : List Nat) (c : Nat) (h : scans l c ≠ 0) : ∀ d, 1 ≤ d → d ≤ (l.map (2 ^ ·)).sum → crcBits d c ≠ 32768 := by
  induction l generalizing c with
  | nil => intro d h1 h2; simp at h2; omega
  | cons k l ih =>
    simp only [scans] at h
    cases h1 : scan k c with
    | zero => rw [h1] at h; exact absurd rfl h
    | succ m =>
      rw [h1] at h
      simp only at h
      obtain ⟨a1, a2⟩ := scan_ok k c (m + 1) h1 (by omega)
      have b2 := ih (m + 1) h
      intro d h2 h3
      simp only [List.map_cons, List.sum_cons] at h3
      by_cases h4 : d ≤ 2 ^ k
      · exact a2 d h2 h4
      · have h5 := b2 (d - 2 ^ k) (by omega) (by omega)
        rw [← a1, ← crcBits_add, show d - 2 ^ k + 2 ^ k = d by omega] at h5
        exact h5
theorem scanned : scans [14, 13, 12, 11, 10, 9, 8, 7, 6, 5, 4, 3] 32768 ≠ 0 := by decide +kernel
theorem no_return (d : Nat) (h1 : 1 ≤ d) (h2 : d < 32760) : crcBits d 32768 ≠ 32768 :=
  scans_ok _ _ scanned d h1 (by simp; omega)
/-- two bits -/
theorem syn_two (a m r : Nat) (hm : m + 1 < 32760) : syn (List.replicate a false ++ (true :: List.replicate m false ++ (true :: List.replicate r false))) ≠ 0 := by
  intro h
  unfold syn at h
  rw [List.foldl_append, fold_zeros, crcBits_zero, List.foldl_append, List.foldl_cons, fold_zeros, List.foldl_cons, fold_zeros] at h
  have e : feed 0 true = crcBit 32768 := rfl
  rw [e, crcBits_comm, ← show crcBits (m + 1) 32768 = crcBit (crcBits m 32768) from rfl] at h
  have hlt := crcBits_lt (m + 1) 32768 (by omega)
  have h1 := crcBits_inj r _ (crcBit_lt _) h
  unfold feed at h1
  simp only [if_true] at h1
  have h2 := crcBit_inj _ (Nat.xor_lt_two_pow (n := 16) hlt (by omega)) h1
  have h3 : (crcBits (m + 1) 32768 ^^^ 32768) ^^^ 32768 = 0 ^^^ 32768 := by rw [h2]
  rw [Nat.xor_assoc, Nat.xor_self, Nat.xor_zero, Nat.zero_xor] at h3
  exact no_return (m + 1) (by omega) hm h3

/-- the parity of sixteen bits -/
def par (c : Nat) : Nat := (c + c / 2 + c / 4 + c / 8 + c / 16 + c / 32 + c / 64 + c / 128 + c / 256 + c / 512 + c / 1024 + c / 2048 + c / 4096 + c / 8192 + c / 16384 + c / 32768) % 2
theorem xor2 (a b : Nat) : (a ^^^ b) % 2 = (a + b) % 2 := by
  have h := Nat.xor_mod_two_pow (a := a) (b := b) (n := 1)
  simp only [Nat.pow_one] at h
  rw [h]
  rcases Nat.mod_two_eq_zero_or_one a with ha | ha <;> rcases Nat.mod_two_eq_zero_or_one b with hb | hb <;> rw [ha, hb, Nat.add_mod, ha, hb] <;> rfl
theorem xdiv (x y i : Nat) : ((x ^^^ y) / 2 ^ i) % 2 = (x / 2 ^ i + y / 2 ^ i) % 2 := by
  rw [Nat.xor_div_two_pow, xor2]
theorem add2 {a b c A B C : Nat} (h : A % 2 = (B + C) % 2) (k : a % 2 = (b + c) % 2) : (A + a) % 2 = (B + b + (C + c)) % 2 := by omega
theorem par_xor (x y : Nat) : par (x ^^^ y) = (par x + par y) % 2 := by
  have h0 := xdiv x y 0; have h1 := xdiv x y 1; have h2 := xdiv x y 2; have h3 := xdiv x y 3
  have h4 := xdiv x y 4; have h5 := xdiv x y 5; have h6 := xdiv x y 6; have h7 := xdiv x y 7
  have h8 := xdiv x y 8; have h9 := xdiv x y 9; have h10 := xdiv x y 10; have h11 := xdiv x y 11
  have h12 := xdiv x y 12; have h13 := xdiv x y 13; have h14 := xdiv x y 14; have h15 := xdiv x y 15
  simp only [Nat.reducePow, Nat.div_one] at h0 h1 h2 h3 h4 h5 h6 h7 h8 h9 h10 h11 h12 h13 h14 h15
  unfold par
  rw [← Nat.add_mod]
  exact add2 (add2 (add2 (add2 (add2 (add2 (add2 (add2 (add2 (add2 (add2 (add2 (add2 (add2 (add2 h0 h1) h2) h3) h4) h5) h6) h7) h8) h9) h10) h11) h12) h13) h14) h15
theorem par_double (v : Nat) (h : v < 32768) : par (v * 2) = par v := by
  have hd (k : Nat) : v * 2 / (2 * k) = v / k := by rw [Nat.mul_comm 2 k]; exact Nat.mul_div_mul_right v k (by omega)
  have e1 := hd 1; have e2 := hd 2; have e3 := hd 4; have e4 := hd 8; have e5 := hd 16; have e6 := hd 32; have e7 := hd 64; have e8 := hd 128
  have e9 := hd 256; have e10 := hd 512; have e11 := hd 1024; have e12 := hd 2048; have e13 := hd 4096; have e14 := hd 8192; have e15 := hd 16384
  simp only [Nat.reduceMul, Nat.div_one] at e1 e2 e3 e4 e5 e6 e7 e8 e9 e10 e11 e12 e13 e14 e15
  unfold par
  rw [e1, e2, e3, e4, e5, e6, e7, e8, e9, e10, e11, e12, e13, e14, e15, Nat.div_eq_of_lt h]
  omega
theorem par_lt (c : Nat) : par c < 2 := Nat.mod_lt _ (by omega)
theorem par_bit (c : Nat) (h : c < 65536) : par (crcBit c) = par c := by
  unfold crcBit
  split
  · rename_i h1
    have e : c = 32768 ^^^ (c - 32768) := by
      have := xor_high true (c - 32768) (by omega)
      simp only [if_true] at this
      rw [← this]; omega
    have e2 : c * 2 % 65536 = (c - 32768) * 2 := by omega
    rw [e2, par_xor, par_double _ (by omega)]
    conv => rhs; rw [e]
    rw [par_xor, show par 4129 = 1 from by decide +kernel, show par 32768 = 1 from by decide +kernel]
    omega
  · rw [show c * 2 % 65536 = c * 2 by omega]
    exact par_double c (by omega)
theorem par_feed (c : Nat) (b : Bool) (h : c < 65536) : par (feed c b) = (par c + if b then 1 else 0) % 2 := by
  have hp := par_lt c
  unfold feed
  cases b
  · simp only [Bool.false_eq_true, if_false, Nat.xor_zero, Nat.add_zero]; rw [par_bit c h]; omega
  · simp only [if_true]
    rw [par_bit _ (Nat.xor_lt_two_pow (n := 16) h (by omega)), par_xor, show par 32768 = 1 from by decide +kernel]
def ones (e : List Bool) : Nat := e.countP (· == true)
theorem par_fold (e : List Bool) (c : Nat) (h : c < 65536) : par (e.foldl feed c) = (par c + ones e) % 2 := by
  induction e generalizing c with
  | nil => have := par_lt c; simp [ones]; omega
  | cons b e ih =>
    rw [List.foldl_cons, ih (feed c b) (crcBit_lt _), par_feed c b h]
    unfold ones
    cases b
    · simp
    · simp; omega
/-- an odd number of bits -/
theorem syn_odd (e : List Bool) (h : ones e % 2 = 1) : syn e ≠ 0 := by
  intro h1
  have h2 := par_fold e 0 (by omega)
  unfold syn at h1
  rw [h1, show par 0 = 0 from rfl] at h2
  omega
end Go.Proofs.Ytglagndpholejaa
