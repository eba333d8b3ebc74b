/- CrcBursts: whatever the text, the place and the burst are, the law answers true and leaves memory as it was. -/
import Derived.Test.YtdmagoimfblopaaFlip
import Derived.Test.YtdmagoimfblopaaSat
namespace Go.Proofs.Ytdmagoimfblopaa.crcBursts
open Go.ChangeShapes Go.WideShapes Go.ChangeAt Go.RowKit Go.Proofs.Ytdmagoimfblopaa Go.Proofs.Ytdmagoimfblopaa.Open
set_option linter.unusedVariables false
/-- the bytes behind i of the burst's bits -/
def uL (t : List Nat) (k b : Nat) : Nat → List Nat
  | 0 => t
  | i + 1 => if b / 2 ^ i % 2 = 1 then flipN (uL t k b i) ((k + i) / 8) ((k + i) % 8) else uL t k b i
theorem uL_length (t : List Nat) (k b i : Nat) : (uL t k b i).length = t.length := by
  induction i with
  | zero => rfl
  | succ i ih => simp only [uL]; split <;> simp [flipN_length, ih]
theorem uL_lt (t : List Nat) (k b i : Nat) (h : ∀ x ∈ t, x < 256) : ∀ x ∈ uL t k b i, x < 256 := by
  induction i with
  | zero => exact h
  | succ i ih =>
    simp only [uL]; split
    · exact flipN_lt _ _ _ ih
    · exact ih
/-- the first i of sixteen bits -/
def bl (b i : Nat) : List Bool := (List.range 16).map fun j => decide (j < i) && (b / 2 ^ j % 2 == 1)
theorem bl_length (b i : Nat) : (bl b i).length = 16 := by simp [bl]
theorem tog_get (k : Nat) (l : List Bool) (j : Nat) : (tog k l)[j]? = if j = k then l[j]?.map (!·) else l[j]? := by
  induction l generalizing k j with
  | nil => cases k <;> simp [tog]
  | cons a l ih =>
    cases k with
    | zero => cases j <;> simp [tog]
    | succ k => cases j with
      | zero => simp [tog]
      | succ j => simp [tog, ih]
theorem bl_get (b n j : Nat) : (bl b n)[j]? = if j < 16 then some (decide (j < n) && (b / 2 ^ j % 2 == 1)) else none := by
  unfold bl
  rw [List.getElem?_map]
  by_cases h : j < 16
  · simp [h]
  · simp [h]
theorem bl_succ (b i : Nat) (hi : i < 16) : bl b (i + 1) = if b / 2 ^ i % 2 = 1 then tog i (bl b i) else bl b i := by
  apply List.ext_getElem?
  intro j
  by_cases hb : b / 2 ^ i % 2 = 1
  · rw [if_pos hb, tog_get, bl_get, bl_get]
    by_cases hji : j = i
    · subst hji; simp [hi, hb]
    · rw [if_neg hji]
      have : (j < i + 1) = (j < i) := by rw [eq_iff_iff]; omega
      simp only [this]
  · rw [if_neg hb, bl_get, bl_get]
    by_cases hji : j = i
    · subst hji
      have : (b / 2 ^ j % 2 == 1) = false := by simpa using hb
      simp [this]
    · have : (j < i + 1) = (j < i) := by rw [eq_iff_iff]; omega
      simp only [this]
theorem bl_zero (b : Nat) : bl b 0 = List.replicate 16 false := by
  apply List.ext_getElem?
  intro j
  rw [bl_get, List.getElem?_replicate]
  simp
theorem bl_all (b : Nat) (h : b < 65536) (hb : b ≠ 0) : bl b 16 ≠ List.replicate 16 false := by
  intro he
  apply hb
  apply Nat.eq_of_testBit_eq
  intro j
  rw [Nat.zero_testBit]
  by_cases hj : j < 16
  · have h1 : (bl b 16)[j]? = some false := by rw [he, List.getElem?_replicate, if_pos hj]
    rw [bl_get, if_pos hj, decide_eq_true hj] at h1
    simp only [Bool.true_and, Option.some.injEq, beq_eq_false_iff_ne] at h1
    rw [Nat.testBit_eq_decide_div_mod_eq]
    exact decide_eq_false h1
  · exact Nat.testBit_lt_two_pow (Nat.lt_of_lt_of_le h (Nat.pow_le_pow_right (n := 2) (by omega) (show 16 ≤ j by omega)))
def eL (b k r i : Nat) : List Bool := List.replicate k false ++ bl b i ++ List.replicate r false
theorem uL_bits (t : List Nat) (k b r : Nat) (h : ∀ x ∈ t, x < 256) (hk : k + 16 + r = 8 * t.length) (i : Nat) (hi : i ≤ 16) :
    bitsOf (uL t k b i) = zipX (bitsOf t) (eL b k r i) := by
  induction i with
  | zero =>
    have e : eL b k r 0 = List.replicate (8 * t.length) false := by unfold eL; rw [bl_zero]; rw [List.replicate_append_replicate, List.replicate_append_replicate, hk]
    rw [e, zipX_false _ _ (bits_length t)]
    rfl
  | succ i ih =>
    have ih := ih (by omega)
    simp only [uL, eL]
    rw [bl_succ b i (by omega)]
    split
    · rw [bits_flip _ _ _ (uL_lt t k b i h) (by rw [uL_length]; omega) (by omega), ih, show 8 * ((k + i) / 8) + (k + i) % 8 = k + i by omega, ← zipX_tog _ _ _ (by unfold eL; simp [bits_length, bl_length]; omega)]
      unfold eL
      congr 1
      have h1 := tog_right i (List.replicate k false) (bl b i ++ List.replicate r false)
      rw [List.length_replicate, tog_left i (bl b i) _ (by rw [bl_length]; omega)] at h1
      rw [List.append_assoc, h1, List.append_assoc]
    · exact ih
theorem burst_bad (s : ByteArray) (k b r : Nat) (hk : k + 16 + r = 8 * (s.size + 2)) (h : b < 65536) (hb : b ≠ 0) : ¬ sumFits (strN (uL (bytesN (putS s)) k b 16)) := by
  have hl : (bytesN (putS s)).length = s.size + 2 := by rw [bytesN_length, put_size]
  refine bad_of_syn s _ (eL b k r 16) (uL_lt _ _ _ _ (bytesN_lt _)) (by rw [uL_length, hl]) (uL_bits _ k b r (bytesN_lt _) (by rw [hl]; exact hk) 16 (by omega)) (by unfold eL; simp [bl_length]; omega) ?_
  exact syn_burst k r (bl b 16) (bl_length b 16) (bl_all b h hb)
theorem bit_is (b j : Nat) (hb : b < 65536) : bits BinOp.and IntKind.u16 ((b : Int) / 2 ^ j) 1 = ((b / 2 ^ j % 2 : Nat) : Int) := by
  have h1 : ((b : Int) / 2 ^ j) = ((b / 2 ^ j : Nat) : Int) := by simp
  have h2 := u16_and_nat (b / 2 ^ j) 1 (Nat.lt_of_le_of_lt (Nat.div_le_self _ _) hb) (by omega)
  rw [Nat.and_one_is_mod] at h2
  rw [h1]
  exact h2
set_option maxHeartbeats 4000000 in
set_option maxRecDepth 100000 in
theorem yes (s : ByteArray) (at' : Int) (b : Nat) (w : World) (hs : s.size ≤ 4093) (hat : -9223372036854775808 ≤ at' ∧ at' ≤ 9223372036854775807) (hb : b < 65536) (hb0 : b ≠ 0) :
    Calls Try.prog 4 #[.string s, .int .i64 at', .int .u16 (b : Int)] w fun e w' => e = .returned (.bool true) ∧ Below w.heap.size w w' := by
  have z0 : (putS ⟨#[97]⟩).size = 3 := put_size _
  have z1 := put_size s
  have R := restI_bd at' (8 * ((s.size : Int) + 2) - 15) (by omega)
  obtain ⟨k, hk⟩ : ∃ k : Nat, restI at' (8 * ((s.size : Int) + 2) - 15) = k := ⟨(restI at' (8 * ((s.size : Int) + 2) - 15)).toNat, by omega⟩
  have hk16 : k + 16 ≤ 8 * (s.size + 2) := by omega
  have BAD := Lib.hid (burst_bad s k b (8 * (s.size + 2) - 16 - k) (by omega) hb hb0)
  have GOOD := Lib.hid (good_put s)
  have FRONT := Lib.hid (put_front s)
  have hlen : (bytesN (putS s)).length = s.size + 2 := by rw [bytesN_length, put_size]
  have HLEN := Lib.hid hlen
  have HB := Lib.hid (strN_bytesN (putS s))
  have hbz : ((b : Int) == 0) = false := by simp; omega
  have HK := Lib.hid hk
  clear R hlen hk
  obtain ⟨t0, T0⟩ : ∃ t0, t0 = putS ⟨#[97]⟩ := ⟨_, rfl⟩
  obtain ⟨t, T⟩ : ∃ t, t = putS s := ⟨_, rfl⟩
  rw [← T0] at z0
  rw [← T] at z1 BAD GOOD FRONT HLEN HB
  have HT0 := Lib.hid T0; have HT := Lib.hid T
  clear T0 T
  go_enter Try.func4, Try.ntmps4
  go_wp2_with fail
  refine (put_yes ⟨#[97]⟩ (by decide) _).mono ?_
  rw [← HT0.out]
  rintro e1 w1 ⟨rfl, hb1⟩
  have zb1 := hb1.size
  go_wp2_with fail
  refine (put_yes s hs _).mono ?_
  rw [← HT.out]
  rintro e2 w2 ⟨rfl, hb2⟩
  have zb2 := hb2.size
  have B2 : Below w.heap.size w w2 := hb1.trans (hb2.mono (by omega))
  clear hb1 hb2
  go_wp2_with fail
  refine (rest_any _ _ (by omega) _).mono ?_
  rintro e3 w3 ⟨rfl, rfl⟩
  rw [HK.out]
  go_wp2
  go_loopw [12, 57] (fun u i wr => ∃ j : Nat, j ≤ 16 ∧ i = .int .i64 j ∧ u = .string (strN (uL (bytesN t) k b j)) ∧ Below w.heap.size w wr ∧ w.heap.size ≤ wr.heap.size) (fun _ i _ => 16 - (intOf i).toNat)
  case atStart => exact ⟨0, by omega, rfl, by rw [show uL (bytesN t) k b 0 = bytesN t from rfl, HB.out], B2, B2.size⟩
  case round =>
    obtain ⟨j, hj, rfl, rfl, hB, hsz⟩ := hrel
    by_cases hlt : j < 16
    · have hu : Hid (uL (bytesN t) k b (j + 1) = if b / 2 ^ j % 2 = 1 then flipN (uL (bytesN t) k b j) ((k + j) / 8) ((k + j) % 8) else uL (bytesN t) k b j) := rfl
      have hl : (uL (bytesN t) k b j).length = s.size + 2 := by rw [uL_length, HLEN.out]
      have hlt8 := uL_lt (bytesN t) k b j (bytesN_lt t)
      have HL := Lib.hid hl; have HL8 := Lib.hid hlt8
      clear hl hlt8
      have bi := bit_is b j hb
      generalize uL (bytesN t) k b j = u at *
      generalize hu' : uL (bytesN t) k b (j + 1) = u' at *
      have HU := Lib.hid hu'
      clear hu'
      by_cases hbit : b / 2 ^ j % 2 = 1
      · have t1 : (bits BinOp.and IntKind.u16 ((b : Int) / 2 ^ j) 1 == 1) = true := by rw [bi, hbit]; rfl
        have hu2 := Lib.hid (hu.out.trans (if_pos hbit))
        clear hu bi hbit
        go_wp2_with fail
        rw [show (k : Int) + (j : Int) = ((8 * ((k + j) / 8) + (k + j) % 8 : Nat) : Int) by omega]
        refine (flipped_any (strN u) ((k + j) / 8) ((k + j) % 8) (by rw [strN_size, HL.out]; omega) (by omega) (by rw [strN_size, HL.out]; omega) _).mono ?_
        rw [bytesN_strN u HL8.out]
        rintro e4 w4 ⟨rfl, hb4⟩
        have zb4 := hb4.size
        have B4 : Below w.heap.size w w4 := hB.trans (hb4.mono (by omega))
        clear hb4 hB
        go_wp2
        go_roundw
        case rel => exact ⟨j + 1, by omega, by go_num, by rw [HU.out, hu2.out], B4, by omega⟩
        case measure => simp [intOf]; omega
      · have t1 : (bits BinOp.and IntKind.u16 ((b : Int) / 2 ^ j) 1 == 1) = false := by
          rw [bi, show b / 2 ^ j % 2 = 0 by omega]; rfl
        have hu2 := Lib.hid (hu.out.trans (if_neg hbit))
        clear hu bi hbit
        go_wp2
        go_roundw
        case rel => exact ⟨j + 1, by omega, by go_num, by rw [HU.out, hu2.out], hB, by omega⟩
        case measure => simp [intOf]; omega
    · obtain rfl : j = 16 := by omega
      have hl : (strN (uL (bytesN t) k b 16)).size = s.size + 2 := by rw [strN_size, uL_length, HLEN.out]
      generalize strN (uL (bytesN t) k b 16) = u at *
      have HL := Lib.hid hl
      clear hl
      go_wp2_with fail
      refine (get_bad u (by rw [HL.out]; omega) (by rw [HL.out]; omega) BAD.out _).mono ?_
      rintro e5 w5 ⟨rfl, rfl⟩
      go_wp2_with fail
      refine (get_ok t (by omega) (by omega) GOOD.out _).mono ?_
      rw [FRONT.out]
      rintro e6 w6 ⟨rfl, rfl⟩
      go_wp2
      go_ret
      exact ⟨ret_bool (by first | rfl | (simp; done)), hB⟩
set_option maxHeartbeats 4000000 in
set_option maxRecDepth 100000 in
theorem none_there (s : ByteArray) (at' : Int) (b : Nat) (w : World) (hm : s.size ≤ 140737488351232) (h : 4093 < s.size ∨ (s.size ≤ 4093 ∧ b = 0)) :
    Calls Try.prog 4 #[.string s, .int .i64 at', .int .u16 (b : Int)] w fun e w' => e = .returned (.bool true) ∧ Below w.heap.size w w' := by
  have z0 : (putS ⟨#[97]⟩).size = 3 := put_size _
  have z1 := put_size s
  have H := Lib.hid h
  obtain ⟨t0, T0⟩ : ∃ t0, t0 = putS ⟨#[97]⟩ := ⟨_, rfl⟩
  obtain ⟨t, T⟩ : ∃ t, t = putS s := ⟨_, rfl⟩
  rw [← T0] at z0
  rw [← T] at z1
  have HT0 := Lib.hid T0; have HT := Lib.hid T
  clear T0 T h
  go_enter Try.func4, Try.ntmps4
  go_wp2_with fail
  refine (put_yes ⟨#[97]⟩ (by decide) _).mono ?_
  rw [← HT0.out]
  rintro e1 w1 ⟨rfl, hb1⟩
  have zb1 := hb1.size
  go_wp2_with fail
  rcases H.out with h | ⟨h, h'⟩
  · refine (put_no s h hm _).mono ?_
    rintro e2 w2 ⟨rfl, rfl⟩
    go_wp2
    go_ret
    exact ⟨ret_bool (by first | rfl | (simp; done)), hb1⟩
  · refine (put_yes s h _).mono ?_
    rw [← HT.out]
    subst h'
    rintro e2 w2 ⟨rfl, hb2⟩
    have zb2 := hb2.size
    have B2 : Below w.heap.size w w2 := hb1.trans (hb2.mono (by omega))
    clear hb1 hb2
    go_wp2
    go_ret
    exact ⟨ret_bool (by first | rfl | (simp; done)), B2⟩
theorem law (s : ByteArray) (at' b : Int) (w : World) (hs0 : s.size ≤ maxLen) (hs : s.size ≤ 140737488351232) (hat : -9223372036854775808 ≤ at' ∧ at' ≤ 9223372036854775807) (hb : 0 ≤ b ∧ b ≤ 65535) :
    Calls Try.prog 4 #[.string s, .int .i64 at', .int .u16 b] w fun e w' => e = .returned (.bool true) ∧ Below w.heap.size w w' := by
  obtain ⟨n, rfl⟩ := Int.eq_ofNat_of_zero_le hb.1
  by_cases h1 : s.size ≤ 4093
  · by_cases h2 : n = 0
    · exact none_there s at' n w hs (.inr ⟨h1, h2⟩)
    · exact yes s at' n w h1 hat (by omega) h2
  · exact none_there s at' n w hs (.inl (by omega))
set_option maxRecDepth 100000 in
theorem lifted (os : Os) (started : os.Started) (H : Type) (enc : TypeId × Value → H) :
    ReturnsInHanded {} Try.checked os 4 .any (Rows.crcBurstsSpec.pre6 enc Try.prog Try.f4 Rows.crcBurstsRow.domain false) (Rows.crcBurstsSpec.post enc Try.prog Try.f4 false true false false) := by
  refine returnsInHanded_of_change_sized (C := Try.checked) own started (by kernel_rfl) Try.func4
    (ChangeSpec.witness6 (enc := enc) (C := Try.checked) false ⟨#[], #[.string ByteArray.empty, .int .i64 0, .int .u16 0], []⟩ 8 (by kernel_rfl) (by kernel_rfl) (by kernel_rfl) (by kernel_rfl)) ?_
  intro W base args ds gs before hval0 hW hcnd hsz0 _
  have hsz : (DataW.weightsEach Try.prog (Try.f4.params.toList ++ Rows.crcBurstsSpec.plain.varTypes Try.prog) (ds ++ gs)).all (· ≤ reachBytes) = true := hsz0
  have hval : ∀ (j : Nat) t v, Try.f4.params[j]? = some t → args[j]? = some v → Value.okWide Try.prog W .any base t v := hval0
  have hW' := hW
  obtain ⟨p, q, hA0, hV, rfl, hfz, hnd⟩ := hW
  have hA : DataW.TrodAll enc Try.prog W 0 (fun _ => true) true Try.f4.params.toList args.toList ds p := hA0
  rw [Try.params4] at hA hval hsz
  obtain ⟨v0, vs0, d0, ds0, p0, q0, hargs, rfl, rfl, h0, r0⟩ := trodAll_cons hA
  obtain ⟨v1, vs1, d1, ds1, p1, q1, rfl, rfl, rfl, h1, r1⟩ := trodAll_cons r0
  obtain ⟨v2, vs2, d2, ds2, p2, q2, rfl, rfl, rfl, h2, r2⟩ := trodAll_cons r1
  obtain ⟨rfl, rfl, rfl⟩ := trodAll_nil r2
  obtain rfl : args = #[v0, v1, v2] := by cases args; simp_all
  obtain ⟨rfl, rfl⟩ := trodVars_none hV
  have k0 := h0
  have lt0 : ∀ x ∈ p0, x.block < W.heap.size := by obtain ⟨m, hm⟩ := k0; exact DataW.trod_lt m _ _ _ hm
  have k1 := h1
  have lt1 : ∀ x ∈ p1, x.block < W.heap.size := by obtain ⟨m, hm⟩ := k1; exact DataW.trod_lt m _ _ _ hm
  have k2 := h2
  have lt2 : ∀ x ∈ p2, x.block < W.heap.size := by obtain ⟨m, hm⟩ := k2; exact DataW.trod_lt m _ _ _ hm
  obtain ⟨a0, rfl, rfl, rfl, w0⟩ := Go.ChangeMaps.open_string Try.underlying9 (hval 0 9 v0 rfl rfl) h0
  have R0 : a0.size ≤ 140737488351232 := by have := sized_string hsz (j := 0) (t := 9) (bytes := a0.data.toList) rfl rfl; simpa [reachBytes] using this
  obtain ⟨a1, rfl, rfl, rfl, w1⟩ := open_int Try.underlying3 (hval 1 3 v1 rfl rfl) h1
  obtain ⟨a2, rfl, rfl, rfl, w2⟩ := open_int Try.underlying22 (hval 2 22 v2 rfl rfl) h2
  clear hA0 hval0
  refine (law a0 a1 a2 W w0 R0 (bounds_i64 w1) (bounds_u16 w2)).mono fun e W' ⟨he, bel⟩ => ?_
  subst he
  exact ⟨_, rfl, _, _, _, [], _, [], hW', trodAll_mk1 (shut_bool Try.underlying4 _), (trodAll_cons_mk (Below.trod laidOut (by kernel_rfl) (of_decide_eq_true (by kernel_rfl)) k0 bel lt0) (trodAll_cons_mk (Below.trod laidOut (by kernel_rfl) (of_decide_eq_true (by kernel_rfl)) k1 bel lt1) (trodAll_cons_mk (Below.trod laidOut (by kernel_rfl) (of_decide_eq_true (by kernel_rfl)) k2 bel lt2) trodAll_mk0))), rfl, bel.frame _, fun h => by cases h⟩
theorem over : Rows.crcBurstsRow.holds Try.pinned (OpenSpec.ofChange Rows.crcBurstsSpec) :=
  OpenClaim.holds_of_wide 4 Try.f4 rfl rfl rfl rfl rfl rfl rfl ⟨rfl, rfl, rfl, rfl, rfl⟩ rfl rfl rfl rfl rfl (by kernel_rfl) Try.func4 (by kernel_rfl)
    (of_decide_eq_true (by kernel_rfl)) (by unfold Func.isWrapper; first | (rw [if_pos (by decide +kernel)]; kernel_rfl) | (rw [if_neg (by decide +kernel)]; exact ⟨rfl, rfl⟩))
    (fun os started H enc _ => lifted os started H enc)
theorem proved : Rows.CrcBurstsSaid := over
#print axioms proved

end Go.Proofs.Ytdmagoimfblopaa.crcBursts
