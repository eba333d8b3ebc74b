/- What the law's own flipped computes: one bit of a text turned over. -/
import Derived.Test.YtglagndpholejaaCrc
import Derived.Test.YtglagndpholejaaCrcErr
import Derived.Laws.IdiomStrings
import Derived.Deep.DeepCutAuto
import Derived.StillTailTactics
namespace Go.Proofs.Ytglagndpholejaa
open Go.ChangeShapes Go.WideShapes Go.ChangeAt Go.RowKit
set_option linter.unusedVariables false

/-- a list of bytes as a text -/
def strN (l : List Nat) : ByteArray := strOfNums (l.map (fun x : Nat => (x : Int)))
theorem strN_size (l : List Nat) : (strN l).size = l.length := by unfold strN; rw [strOfNums_size, List.length_map]
theorem bytesN_strN (l : List Nat) (h : ∀ x ∈ l, x < 256) : bytesN (strN l) = l := by
  unfold bytesN strN
  rw [strOfNums_data, List.map_map, List.map_map]
  conv => rhs; rw [← List.map_id l]
  refine List.map_congr_left fun x hx => ?_
  have := h x hx
  simp [UInt8.toNat_ofNat_of_lt' this]
theorem strN_bytesN (s : ByteArray) : strN (bytesN s) = s := by
  apply ByteArray.ext
  apply Array.toList_inj.1
  unfold strN bytesN
  rw [strOfNums_data, List.map_map, List.map_map]
  conv => rhs; rw [← List.map_id s.data.toList]
  refine List.map_congr_left fun x hx => ?_
  simp
def flipN (l : List Nat) (q r : Nat) : List Nat := l.set q (l.getD q 0 ^^^ 2 ^ (7 - r))
theorem flipN_length (l : List Nat) (q r : Nat) : (flipN l q r).length = l.length := List.length_set
theorem pow_lt8 (r : Nat) : 2 ^ (7 - r) < 256 := Nat.lt_of_le_of_lt (Nat.pow_le_pow_right (by omega) (show 7 - r ≤ 7 by omega)) (by omega)
theorem flipN_lt (l : List Nat) (q r : Nat) (h : ∀ x ∈ l, x < 256) : ∀ x ∈ flipN l q r, x < 256 := by
  intro x hx
  rcases List.mem_or_eq_of_mem_set hx with hx | hx
  · exact h x hx
  · subst hx
    refine Nat.xor_lt_two_pow (n := 8) ?_ (pow_lt8 r)
    rw [List.getD_eq_getElem?_getD]
    cases h2 : l[q]? with
    | none => simp
    | some y => exact h y (List.mem_of_getElem? h2)
theorem bytes_row (w : World) (s : ByteArray) :
    ∃ W cap, (convert 9 56 (.string s)).run Try.prog w = .ok (.slice (some ⟨w.heap.size, 0, none⟩) s.size cap) W ∧ s.size ≤ cap ∧ Below w.heap.size w W ∧ w.heap.size < W.heap.size ∧
      (∀ j (h : j < s.size), W.cell? ⟨w.heap.size, j, none⟩ = some (.int .u8 (s[j].toNat : Int))) ∧ ∀ j, j < s.size → W.frozen? ⟨w.heap.size, j, none⟩ = false := by
  have h := run_bytes_of_string (P := Try.prog) w 9 56 5 s Try.underlying9 Try.underlying56 Try.underlying5
  have hc : s.size ≤ grownCap w s.size 0 5 := grownCap_ge w s.size 0 5
  refine ⟨_, _, h, hc, ?_, ?_, ?_, ?_⟩
  · repeat (first | with_reducible exact Below.refl _ _ | ((with_reducible refine Below.setCell ?_ ?_ _); rotate_left; (· first | (simp; done) | omega | (simp; omega))) | with_reducible refine below_drewN ?_ _ | with_reducible refine Below.drew ?_ | ((with_reducible refine Below.alloc ?_ ?_ _); rotate_left; (· first | (simp; done) | omega | (simp; omega))) | exact Below.refl _ _ | refine Below.setCell ?_ (by first | (simp; done) | omega | (simp; omega)) _ | refine below_drewN ?_ _ | refine Below.drew ?_ | refine Below.alloc ?_ (by first | (simp; done) | omega | (simp; omega)) _)
  · simp
  · intro j hj
    show (w.drew.alloc _).cell? ⟨w.drew.heap.size, j, none⟩ = _
    rw [World.cell?_alloc_mark]
    have h1 : j < s.data.size := hj
    simp only [bytesRow]
    rw [Array.getElem?_append_left (by simpa using h1)]
    simp
    exact ⟨s.data[j], by simp, rfl⟩
  · intro j hj
    show (w.drew.alloc _).frozen? ⟨w.drew.heap.size, j, none⟩ = _
    rw [World.frozen?_alloc_mark]
    have h1 : j < s.data.size := hj
    have h2 : ¬ (bytesRow s (grownCap w s.size 0 5)).size ≤ j := by unfold bytesRow; simp; omega
    simp [h2]

def tog : Nat → List Bool → List Bool
  | _, [] => []
  | 0, b :: l => (!b) :: l
  | n + 1, b :: l => b :: tog n l
theorem tog_length (k : Nat) (l : List Bool) : (tog k l).length = l.length := by
  induction l generalizing k with
  | nil => cases k <;> rfl
  | cons b l ih => cases k <;> simp [tog, ih]
theorem tog_left (k : Nat) (l m : List Bool) (h : k < l.length) : tog k (l ++ m) = tog k l ++ m := by
  induction l generalizing k with
  | nil => simp at h
  | cons b l ih =>
    cases k with
    | zero => rfl
    | succ k => simp only [List.length_cons, Nat.add_lt_add_iff_right] at h; simp [tog, ih k h]
theorem tog_right (k : Nat) (l m : List Bool) : tog (l.length + k) (l ++ m) = l ++ tog k m := by
  induction l with
  | nil => simp
  | cons b l ih => rw [List.length_cons, Nat.add_right_comm]; simp only [List.cons_append, tog, ih]
theorem zipX_tog (k : Nat) (t e : List Bool) (h : t.length = e.length) : zipX t (tog k e) = tog k (zipX t e) := by
  induction t generalizing e k with
  | nil =>
    obtain rfl := List.length_eq_zero_iff.1 h.symm
    cases k <;> rfl
  | cons a t ih =>
    match e, h with
    | b :: e, h =>
      simp only [List.length_cons, Nat.add_right_cancel_iff] at h
      cases k with
      | zero => cases a <;> cases b <;> rfl
      | succ k => simp only [tog, zipX, ih k e h]
theorem zipX_false (t : List Bool) (n : Nat) (h : t.length = n) : zipX t (List.replicate n false) = t := by
  induction t generalizing n with
  | nil => subst h; rfl
  | cons a t ih => subst h; simp [zipX, List.replicate_succ, ih]
theorem byte_flip : ∀ x, x < 256 → ∀ r, r < 8 → byteBits (x ^^^ 2 ^ (7 - r)) = tog r (byteBits x) := by decide +kernel
theorem bits_length (l : List Nat) : (bitsOf l).length = 8 * l.length := by
  induction l with
  | nil => rfl
  | cons x l ih => simp only [bitsOf, List.flatMap_cons, List.length_append, List.length_cons] at ih ⊢; rw [ih]; simp [byteBits]; omega
theorem bits_flip (l : List Nat) (q r : Nat) (hl : ∀ x ∈ l, x < 256) (hq : q < l.length) (hr : r < 8) : bitsOf (flipN l q r) = tog (8 * q + r) (bitsOf l) := by
  induction l generalizing q with
  | nil => simp at hq
  | cons x l ih =>
    have hx := hl x List.mem_cons_self
    cases q with
    | zero =>
      have e : flipN (x :: l) 0 r = (x ^^^ 2 ^ (7 - r)) :: l := rfl
      rw [e]
      simp only [bitsOf, List.flatMap_cons, Nat.mul_zero, Nat.zero_add]
      rw [tog_left _ _ _ (by simp [byteBits]; exact hr), byte_flip x hx r hr]
    | succ q =>
      have e : flipN (x :: l) (q + 1) r = x :: flipN l q r := rfl
      rw [e]
      simp only [List.length_cons, Nat.add_lt_add_iff_right] at hq
      have h1 := ih q (fun y hy => hl y (List.mem_cons_of_mem _ hy)) hq
      simp only [bitsOf, List.flatMap_cons] at h1 ⊢
      rw [h1, show 8 * (q + 1) + r = (byteBits x).length + (8 * q + r) by simp [byteBits]; omega, tog_right]
theorem step2 (c x y : Nat) (hc : c < 65536) (hx : x < 256) (hy : y < 256) : crcStep (crcStep c x) y = crcBits 16 (c ^^^ (x * 256 + y)) := by
  have h1 : ∀ d z, d < 65536 → z < 256 → crcStep d z = crcBits 8 (d ^^^ z * 256) := by
    intro d z hd hz
    rw [step_bits d z hd hz]
    have h1 := fold_xor (List.replicate 8 false) (byteBits z) d 0 rfl
    have h2 : zipX (List.replicate 8 false) (byteBits z) = byteBits z := by simp [zipX, byteBits, List.replicate]
    rw [h2, Nat.xor_zero, fold_zeros, bits8 z hz] at h1
    rw [h1, crcBits_xor]
  have e : x * 256 + y = x * 256 ^^^ y := by
    have h := split256 (x * 256 + y) (by omega)
    rw [show (x * 256 + y) / 256 = x by omega, show (x * 256 + y) % 256 = y by omega] at h
    exact h
  rw [h1 _ y (crcStep_lt c x hc hx) hy, h1 c x hc hx, ← low8 y hy, ← crcBits_xor, ← crcBits_add, e, Nat.xor_assoc]
theorem xor_eq_zero' (a b : Nat) (h : a ^^^ b = 0) : a = b := by
  have h1 : (a ^^^ b) ^^^ b = 0 ^^^ b := by rw [h]
  rwa [Nat.xor_assoc, Nat.xor_self, Nat.xor_zero, Nat.zero_xor] at h1
theorem crcFrom_two (c : Nat) (l : List Nat) (x y : Nat) : crcFrom c (l ++ [x, y]) = crcStep (crcStep (crcFrom c l) x) y := by simp [crcFrom]
theorem bytesN_extract (s : ByteArray) (n : Nat) : bytesN (s.extract 0 n) = (bytesN s).take n := by
  unfold bytesN
  rw [← List.map_take]
  congr 1
  simp [ByteArray.data_extract, List.extract]
theorem fits_iff (s : ByteArray) (h2 : 2 ≤ s.size) : sumFits s ↔ crcFrom 65535 (bytesN s) = 0 := by
  obtain ⟨n, hn⟩ : ∃ n, s.size = n + 2 := ⟨s.size - 2, by omega⟩
  have hl : (bytesN s).length = n + 2 := by rw [bytesN_length, hn]
  have hlt := bytesN_lt s
  unfold sumFits
  rw [show s.size - 2 = n by omega, show s.size - 1 = n + 1 by omega, bytesN_extract]
  generalize bytesN s = l at *
  have hsplit : l = l.take n ++ [l.getD n 0, l.getD (n + 1) 0] := by
    apply List.ext_getElem?
    intro i
    by_cases h : i < n
    · rw [List.getElem?_append_left (by simp; omega), List.getElem?_take_of_lt h]
    · rw [List.getElem?_append_right (by simp; omega)]
      simp only [List.length_take, hl]
      by_cases h3 : i = n
      · subst h3
        rw [show i - min i (i + 2) = 0 by omega]
        simp [List.getD_eq_getElem?_getD, show i < l.length by omega]
      · by_cases h4 : i = n + 1
        · subst h4
          rw [show n + 1 - min n (n + 2) = 1 by omega]
          simp [List.getD_eq_getElem?_getD, show n + 1 < l.length by omega]
        · rw [List.getElem?_eq_none (by omega), List.getElem?_eq_none (by simp; omega)]
  have hx : l.getD n 0 < 256 := by
    rw [List.getD_eq_getElem?_getD, List.getElem?_eq_getElem (by omega)]; exact hlt _ (List.getElem_mem _)
  have hy : l.getD (n + 1) 0 < 256 := by
    rw [List.getD_eq_getElem?_getD, List.getElem?_eq_getElem (by omega)]; exact hlt _ (List.getElem_mem _)
  have hc : crcFrom 65535 (l.take n) < 65536 := crcFrom_lt _ _ (by omega) (fun x hx => hlt x (List.mem_of_mem_take hx))
  unfold crcSum
  conv => rhs; rw [hsplit]
  rw [crcFrom_two, step2 _ _ _ hc hx hy]
  generalize l.getD n 0 = x at *
  generalize l.getD (n + 1) 0 = y at *
  generalize crcFrom 65535 (l.take n) = c at *
  constructor
  · rintro ⟨h3, h4⟩
    have : c = x * 256 + y := by omega
    rw [this, Nat.xor_self, crcBits_zero]
  · intro h
    have h3 := crcBits_inj 16 _ (Nat.xor_lt_two_pow (n := 16) hc (by omega)) h
    have h4 := xor_eq_zero' _ _ h3
    omega
theorem bytesN_append (s t : ByteArray) : bytesN (s ++ t) = bytesN s ++ bytesN t := by
  unfold bytesN
  simp
theorem bytesN_put (s : ByteArray) : bytesN (putS s) = bytesN s ++ [crcSum (bytesN s) / 256, crcSum (bytesN s) % 256] := by
  have hc := crcSum_lt s
  unfold putS
  rw [bytesN_append]
  congr 1
  have h := bytesN_strN [crcSum (bytesN s) / 256, crcSum (bytesN s) % 256] (by intro x hx; simp at hx; omega)
  rw [← h]
  unfold strN crcHi crcLo
  rfl
theorem put_zero (s : ByteArray) : crcFrom 65535 (bytesN (putS s)) = 0 := by
  have hc := crcSum_lt s
  rw [bytesN_put, crcFrom_two, show crcFrom 65535 (bytesN s) = crcSum (bytesN s) from rfl, step2 _ _ _ hc (by omega) (by omega)]
  rw [show crcSum (bytesN s) / 256 * 256 + crcSum (bytesN s) % 256 = crcSum (bytesN s) by omega, Nat.xor_self, crcBits_zero]
theorem put_size (s : ByteArray) : (putS s).size = s.size + 2 := by
  rw [← bytesN_length, bytesN_put, List.length_append, bytesN_length]; rfl
/-- a text with an error in it -/
theorem bad_of_syn (s : ByteArray) (l : List Nat) (e : List Bool) (hl : ∀ x ∈ l, x < 256) (hlen : l.length = s.size + 2) (hbits : bitsOf l = zipX (bitsOf (bytesN (putS s))) e) (he : e.length = 8 * (s.size + 2)) (h : syn e ≠ 0) : ¬ sumFits (strN l) := by
  intro hf
  have h1 := (fits_iff (strN l) (by rw [strN_size, hlen]; omega)).1 hf
  rw [bytesN_strN l hl, from_bits l 65535 (by omega) hl, hbits, err _ _ _ (by rw [bits_length, bytesN_length, put_size, he]), ← from_bits _ _ (by omega) (bytesN_lt _), put_zero, Nat.zero_xor] at h1
  exact h h1
theorem good_put (s : ByteArray) : sumFits (putS s) := (fits_iff _ (by rw [put_size]; omega)).2 (put_zero s)
theorem put_front (s : ByteArray) : (putS s).extract 0 ((putS s).size - 2) = s := by
  rw [put_size, show s.size + 2 - 2 = s.size by omega, ← strN_bytesN ((putS s).extract 0 s.size), bytesN_extract, bytesN_put, List.take_left' (bytesN_length s), strN_bytesN]

end Go.Proofs.Ytglagndpholejaa
