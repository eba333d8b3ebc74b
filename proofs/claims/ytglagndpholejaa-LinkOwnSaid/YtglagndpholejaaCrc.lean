/- What the functions of package crc compute. -/
import Derived.Test.YtglagndpholejaaOpen
import Derived.Test.YtglagndpholejaaNum
import Derived.Test.YtglagndpholejaaCrcNum
import Derived.WalkLawsBesides
import Derived.Lib.Hide
import Derived.Laws.BytesArg
namespace Go.Proofs.Ytglagndpholejaa
open Go.ChangeShapes Go.WideShapes Go.ChangeAt Go.RowKit
set_option linter.unusedVariables false

theorem and_top (c : Nat) (hc : c < 65536) : bits BinOp.and IntKind.u16 (c : Int) 32768 = ((c / 32768 % 2 * 32768 : Nat) : Int) := by
  have h := u16_and_nat c 32768 hc (by omega)
  rw [show ((32768 : Nat) : Int) = 32768 from rfl] at h
  rw [h, show (32768 : Nat) = 2 ^ 15 from rfl, nat_bit 15 c]
set_option maxHeartbeats 1000000 in
theorem crcRow_any (b : Nat) (hb : b < 256) (w : World) :
    Calls Try.prog 74 #[.int .u8 b] w fun e w' => e = .returned (.int .u16 (crcRow b)) ∧ w = w' := by
  go_enter Try.func74, Try.ntmps74
  go_wp2
  go_loop [3, 7] (fun c i => ∃ k : Nat, k ≤ 8 ∧ i = .int .i64 k ∧ c = .int .u16 ((crcBits k (b * 256) : Nat) : Int)) (fun _ i => 8 - (intOf i).toNat)
  case atStart => exact ⟨0, by omega, rfl, by simp [crcBits]⟩
  case round =>
    obtain ⟨k, hk, rfl, rfl⟩ := hrel
    have hlt := crcBits_lt k (b * 256) (by omega)
    have hs : Hid (crcBits (k + 1) (b * 256) = crcBit (crcBits k (b * 256))) := rfl
    by_cases h8 : k < 8
    · generalize crcBits k (b * 256) = c at hlt hs ⊢
      have ht := and_top c hlt
      by_cases hc : c / 32768 % 2 = 1
      · have hb2 : crcBit c = (c * 2 % 65536) ^^^ 4129 := if_pos hc
        have ht2 : (bits BinOp.and IntKind.u16 (c : Int) 32768 != 0) = true := by rw [ht, hc]; decide
        have HX := Lib.hid (u16_xor_nat (c * 2 % 65536) 4129 (by omega) (by omega))
        clear ht
        go_wp2
        go_round
        case rel =>
          refine ⟨k + 1, by omega, by go_num, ?_⟩
          rw [hs.out, hb2]
          have e : (c : Int) * 2 % 65536 = ((c * 2 % 65536 : Nat) : Int) := by simp
          rw [IntKind.wrap_u16, e]
          exact congrArg _ HX.out
        case measure => simp [intOf]; omega
      · have hb2 : crcBit c = c * 2 % 65536 := if_neg hc
        have ht2 : (bits BinOp.and IntKind.u16 (c : Int) 32768 != 0) = false := by rw [ht, show c / 32768 % 2 = 0 from by omega]; decide
        clear ht
        go_wp2
        go_round
        case rel =>
          refine ⟨k + 1, by omega, by go_num, ?_⟩
          rw [hs.out, hb2]
          go_num
        case measure => simp [intOf]; omega
    · obtain rfl : k = 8 := by omega
      go_wp2
      go_ret
      exact ⟨rfl, rfl⟩

/-- the bytes of a text as numbers -/
def bytesN (s : ByteArray) : List Nat := s.data.toList.map UInt8.toNat
theorem bytesN_length (s : ByteArray) : (bytesN s).length = s.size := by unfold bytesN; rw [List.length_map, Array.length_toList]; rfl
theorem bytesN_lt (s : ByteArray) : ∀ x ∈ bytesN s, x < 256 := by
  intro x hx; obtain ⟨b, _, rfl⟩ := List.mem_map.1 hx; exact b.toNat_lt
theorem bytesN_get (s : ByteArray) (k : Nat) (h : k < s.size) : (bytesN s)[k]? = some s[k].toNat := by
  have h' : k < s.data.toList.length := h
  unfold bytesN
  rw [List.getElem?_map, List.getElem?_eq_getElem h']
  rfl
theorem crcFrom_snoc (c : Nat) (l : List Nat) (x : Nat) : crcFrom c (l ++ [x]) = crcStep (crcFrom c l) x := by simp [crcFrom]
theorem crcTake (s : ByteArray) (k : Nat) (h : k < s.size) : crcFrom 65535 ((bytesN s).take (k + 1)) = crcStep (crcFrom 65535 ((bytesN s).take k)) s[k].toNat := by
  have h1 := bytesN_get s k h
  rw [List.take_add_one, h1]
  exact crcFrom_snoc _ _ _
set_option maxHeartbeats 1000000 in
theorem crcSum_any (s : ByteArray) (hs : s.size ≤ maxLen) (w : World) :
    Calls Try.prog 69 #[.string s] w fun e w' => e = .returned (.int .u16 (crcSum (bytesN s))) ∧ w = w' := by
  unfold maxLen at hs
  go_enter Try.func69, Try.ntmps69
  go_wp2
  go_loop [3, 7] (fun c i => ∃ k : Nat, k ≤ s.size ∧ i = .int .i64 k ∧ c = .int .u16 ((crcFrom 65535 ((bytesN s).take k) : Nat) : Int)) (fun _ i => s.size - (intOf i).toNat)
  case atStart => exact ⟨0, by omega, rfl, rfl⟩
  case round =>
    obtain ⟨k, hk, rfl, rfl⟩ := hrel
    by_cases hlt : k < s.size
    · have hc := crcFrom_lt ((bytesN s).take k) 65535 (by omega) (fun x hx => bytesN_lt s x (List.mem_of_mem_take hx))
      have hs2 := Lib.hid (crcTake s k hlt)
      generalize crcFrom 65535 ((bytesN s).take k) = c at hc hs2 ⊢
      have hx := s[k].toNat_lt
      have e1 : bits BinOp.xor IntKind.u8 ((c : Int) / 256) (s[k].toNat : Int) = (((c / 256) ^^^ s[k].toNat : Nat) : Int) := u8_xor_nat (c / 256) s[k].toNat (by omega) hx
      have hr : (c / 256) ^^^ s[k].toNat < 256 := Nat.xor_lt_two_pow (n := 8) (by omega) hx
      have HX := Lib.hid (u16_xor_nat (c * 256 % 65536) (crcRow ((c / 256) ^^^ s[k].toNat)) (by omega) (crcRow_lt _ hr))
      have HR := Lib.hid hr
      have HE := Lib.hid e1
      clear hr e1 hx
      go_wp2_with fail
      rw [HE.out]
      refine (crcRow_any _ HR.out _).mono ?_
      rintro e w' ⟨rfl, rfl⟩
      go_wp2
      go_round
      case rel =>
        refine ⟨k + 1, by omega, by go_num, ?_⟩
        rw [hs2.out]
        have e2 : (c : Int) * 256 % 65536 = ((c * 256 % 65536 : Nat) : Int) := by simp
        rw [IntKind.wrap_u16, e2]
        exact congrArg _ HX.out
      case measure => simp [intOf]; omega
    · obtain rfl : k = s.size := by omega
      go_wp2
      go_ret
      refine ⟨?_, rfl⟩
      unfold crcSum
      rw [List.take_of_length_le (by rw [bytesN_length]; omega)]
      rfl

/-- a text with its checksum behind it -/
def crcHi (s : ByteArray) : Int := ((crcSum (bytesN s) : Nat) : Int) / 256
def crcLo (s : ByteArray) : Int := ((crcSum (bytesN s) : Nat) : Int) % 256
def putS (s : ByteArray) : ByteArray := s ++ strOfNums [crcHi s, crcLo s]
theorem crcSum_lt (s : ByteArray) : crcSum (bytesN s) < 65536 := crcFrom_lt _ _ (by omega) (bytesN_lt s)
set_option maxHeartbeats 1000000 in
set_option maxRecDepth 100000 in
theorem put_yes (s : ByteArray) (hs : s.size ≤ 4093) (w : World) :
    Calls Try.prog 61 #[.string s] w fun e w' => e = .returned (.tuple #[.string (putS s), .int .i64 0]) ∧ Below w.heap.size w w' := by
  have hcv : ∀ (W : World) (a b : Int), (convert 56 9 (.slice (some ⟨W.heap.size, 0, none⟩) 2 2)).run Try.prog (W.alloc (.cells #[.int .u8 a, .int .u8 b] 5)) = .ok (.string (strOfNums [a, b])) (W.alloc (.cells #[.int .u8 a, .int .u8 b] 5)) := by
    intro W a b
    refine run_convert_bytes_arg _ _ _ Try.underlying56 Try.underlying5 W.heap.size 0 2 2 [a, b] rfl (fun i hi => ?_) _ Try.underlying9
    have : i = 0 ∨ i = 1 := by omega
    rcases this with rfl | rfl <;> simp
  have hlt := crcSum_lt s
  have hz2 : ∀ a b : Int, (strOfNums [a, b]).size = 2 := fun _ _ => rfl
  have P1 : Hid (putS s = s ++ strOfNums [((crcSum (bytesN s) : Nat) : Int) / 256, ((crcSum (bytesN s) : Nat) : Int) % 256]) := rfl
  generalize putS s = t at *
  go_enter Try.func61, Try.ntmps61
  go_wp2_with (go_at_call 69; refine (crcSum_any s (by unfold maxLen; omega) _).mono ?_; rintro e w' ⟨rfl, rfl⟩)
  go_ret2
  refine ⟨by rw [P1.out]; rfl, ?_⟩
  repeat (first | with_reducible exact Below.refl _ _ | ((with_reducible refine Below.setCell ?_ ?_ _); rotate_left; (· first | (simp; done) | omega | (simp; omega))) | with_reducible refine below_drewN ?_ _ | with_reducible refine Below.drew ?_ | ((with_reducible refine Below.alloc ?_ ?_ _); rotate_left; (· first | (simp; done) | omega | (simp; omega))) | exact Below.refl _ _ | refine Below.setCell ?_ (by first | (simp; done) | omega | (simp; omega)) _ | refine below_drewN ?_ _ | refine Below.drew ?_ | refine Below.alloc ?_ (by first | (simp; done) | omega | (simp; omega)) _)
set_option maxRecDepth 100000 in
theorem put_no (s : ByteArray) (hs : 4093 < s.size) (hm : s.size ≤ 140737488351232) (w : World) :
    Calls Try.prog 61 #[.string s] w fun e w' => e = .returned (.tuple #[.string ⟨#[]⟩, .int .i64 2]) ∧ w = w' := by
  go_enter Try.func61, Try.ntmps61
  go_wp2
  go_ret2
  exact ⟨rfl, rfl⟩

/-- whether a text's last two bytes are its checksum -/
def sumFits (s : ByteArray) : Prop :=
  ((crcSum (bytesN (s.extract 0 (s.size - 2))) : Nat) : Int) / 256 = (((bytesN s).getD (s.size - 2) 0 : Nat) : Int) ∧ ((crcSum (bytesN (s.extract 0 (s.size - 2))) : Nat) : Int) % 256 = (((bytesN s).getD (s.size - 1) 0 : Nat) : Int)
theorem bytesN_getD (s : ByteArray) (k : Nat) (h : k < s.size) : (bytesN s).getD k 0 = s[k].toNat := by
  rw [List.getD_eq_getElem?_getD, bytesN_get s k h]; rfl
set_option maxHeartbeats 1000000 in
set_option maxRecDepth 100000 in
theorem get_ok (s : ByteArray) (h2 : 2 ≤ s.size) (hs : s.size ≤ 4095) (h : sumFits s) (w : World) :
    Calls Try.prog 70 #[.string s] w fun e w' => e = .returned (.tuple #[.string (s.extract 0 (s.size - 2)), .int .i64 0]) ∧ w = w' := by
  obtain ⟨n, hn⟩ : ∃ n, s.size = n + 2 := ⟨s.size - 2, by omega⟩
  have HE : Hid (s.extract 0 (s.size - 2) = s.extract 0 n) := (by rw [hn]; rfl : s.extract 0 (s.size - 2) = s.extract 0 n)
  unfold sumFits at h
  rw [HE.out, bytesN_getD s (s.size - 2) (by omega), bytesN_getD s (s.size - 1) (by omega)] at h
  rw [HE.out]
  have hlt := crcSum_lt (s.extract 0 n)
  obtain ⟨h3, h4⟩ := h
  have i1 : s[s.size - 2] = s[n] := by congr 1; omega
  have i2 : s[s.size - 1] = s[n + 1] := by congr 1; omega
  rw [i1] at h3; rw [i2] at h4
  clear i1 i2
  have hb1 : n < s.size := by omega
  have hb2 : n + 1 < s.size := by omega
  have hsz : (s.extract 0 n).size ≤ maxLen := by rw [ByteArray.size_extract]; unfold maxLen; omega
  have HSZ := Lib.hid hsz
  clear hsz
  go_enter Try.func70, Try.ntmps70
  go_wp2_with fail
  refine (crcSum_any (s.extract 0 n) HSZ.out _).mono ?_
  rintro e w' ⟨rfl, rfl⟩
  generalize crcSum (bytesN (s.extract 0 n)) = c at *
  go_wp2
  go_ret2
  exact ⟨rfl, rfl⟩
set_option maxHeartbeats 1000000 in
set_option maxRecDepth 100000 in
theorem get_bad (s : ByteArray) (h2 : 2 ≤ s.size) (hs : s.size ≤ 4095) (h : ¬ sumFits s) (w : World) :
    Calls Try.prog 70 #[.string s] w fun e w' => e = .returned (.tuple #[.string ⟨#[]⟩, .int .i64 5]) ∧ w = w' := by
  obtain ⟨n, hn⟩ : ∃ n, s.size = n + 2 := ⟨s.size - 2, by omega⟩
  have HE : Hid (s.extract 0 (s.size - 2) = s.extract 0 n) := (by rw [hn]; rfl : s.extract 0 (s.size - 2) = s.extract 0 n)
  unfold sumFits at h
  rw [HE.out, bytesN_getD s (s.size - 2) (by omega), bytesN_getD s (s.size - 1) (by omega)] at h
  have hlt := crcSum_lt (s.extract 0 n)
  have hb1 : n < s.size := by omega
  have hb2 : n + 1 < s.size := by omega
  have i1 : s[s.size - 2] = s[n] := by congr 1; omega
  have i2 : s[s.size - 1] = s[n + 1] := by congr 1; omega
  rw [i1, i2] at h
  clear i1 i2
  have hsz : (s.extract 0 n).size ≤ maxLen := by rw [ByteArray.size_extract]; unfold maxLen; omega
  have HSZ := Lib.hid hsz
  have h' : (((crcSum (bytesN (s.extract 0 n)) : Nat) : Int) / 256 == ((s[n].toNat : Nat) : Int)) = false ∨
      ((((crcSum (bytesN (s.extract 0 n)) : Nat) : Int) / 256 == ((s[n].toNat : Nat) : Int)) = true ∧ (((crcSum (bytesN (s.extract 0 n)) : Nat) : Int) % 256 == ((s[n + 1].toNat : Nat) : Int)) = false) := by
    cases g1 : ((crcSum (bytesN (s.extract 0 n)) : Nat) : Int) / 256 == ((s[n].toNat : Nat) : Int)
    · exact .inl rfl
    · refine .inr ⟨rfl, ?_⟩
      rw [beq_iff_eq] at g1
      simp only [beq_eq_false_iff_ne]
      exact fun g2 => h ⟨g1, g2⟩
  clear hsz h HE
  generalize hC : crcSum (bytesN (s.extract 0 n)) = c at *
  have HC := Lib.hid hC
  clear hC
  rcases h' with g | ⟨g, g'⟩
  · go_enter Try.func70, Try.ntmps70
    go_wp2_with fail
    refine (crcSum_any (s.extract 0 n) HSZ.out _).mono ?_
    rw [HC.out]
    rintro e w' ⟨rfl, rfl⟩
    go_wp2
    go_ret2
    exact ⟨rfl, rfl⟩
  · have g2 : ((c : Int) / 256 != ((s[n].toNat : Nat) : Int)) = false := by simpa using g
    go_enter Try.func70, Try.ntmps70
    go_wp2_with fail
    refine (crcSum_any (s.extract 0 n) HSZ.out _).mono ?_
    rw [HC.out]
    rintro e w' ⟨rfl, rfl⟩
    go_wp2
    go_ret2
    exact ⟨rfl, rfl⟩
set_option maxRecDepth 100000 in
theorem get_short (s : ByteArray) (h2 : s.size < 2) (w : World) :
    Calls Try.prog 70 #[.string s] w fun e w' => e = .returned (.tuple #[.string ⟨#[]⟩, .int .i64 3]) ∧ w = w' := by
  go_enter Try.func70, Try.ntmps70
  go_wp2
  go_ret2
  exact ⟨rfl, rfl⟩
set_option maxRecDepth 100000 in
theorem get_large (s : ByteArray) (h2 : 4095 < s.size) (w : World) :
    Calls Try.prog 70 #[.string s] w fun e w' => e = .returned (.tuple #[.string ⟨#[]⟩, .int .i64 2]) ∧ w = w' := by
  go_enter Try.func70, Try.ntmps70
  go_wp2
  go_ret2
  exact ⟨rfl, rfl⟩

end Go.Proofs.Ytglagndpholejaa
