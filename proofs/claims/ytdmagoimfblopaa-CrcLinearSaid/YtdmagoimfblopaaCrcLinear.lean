/- CrcLinear: whatever the three texts are, the law answers true and leaves memory as it was. -/
import Derived.Test.YtdmagoimfblopaaCrc
import Derived.Laws.MakeOwn
import Derived.ChangeMaps5
import Derived.Deep.DeepCutAuto
import Derived.BigQuiet
import Derived.Deep.QuietTactic
import Derived.StillTailTactics
namespace Go.Proofs.Ytdmagoimfblopaa.crcLinear
open Go.ChangeShapes Go.WideShapes Go.ChangeAt Go.RowKit Go.Proofs.Ytdmagoimfblopaa Go.Proofs.Ytdmagoimfblopaa.Open
set_option linter.unusedVariables false
theorem sum_is (s : ByteArray) (hs : s.size ≤ maxLen) (w : World) (v : Nat) (h : crcSum (bytesN s) = v) :
    Calls Try.prog 11 #[.string s] w fun e w' => e = .returned (.int .u16 (v : Int)) ∧ w = w' := by subst h; exact crcSum_any s hs w
theorem info : (Try.prog.info? 5).map (fun i => (i.zero, i.size, i.bytes)) = some (some (.int .u8 0), 1, 1) := by kernel_rfl
theorem made_cell (m j : Nat) (h : j < m) : (madeCells #[Value.int .u8 0] m)[j]? = some (.int .u8 0) := by
  simp [madeCells, h, Nat.mod_one]
theorem at_new (W : World) (n j : Nat) (h : j < n) : (W.alloc (.cells (madeCells #[Value.int .u8 0] n) 5)).cell? ⟨W.heap.size, j, none⟩ = some (.int .u8 0) := by
  have := made_cell n j h
  go_simp
theorem fr_new (W : World) (n o : Nat) : (W.alloc (.cells (madeCells #[Value.int .u8 0] n) 5)).frozen? ⟨W.heap.size, o, none⟩ = false := by go_simp
/-- the byte of the fourth text -/
def X (a b c : ByteArray) (j : Nat) : Nat := xor3 ((bytesN a).getD j 0) ((bytesN b).getD j 0) ((bytesN c).getD j 0)
theorem zip3_eq (l m n : List Nat) (h1 : l.length = m.length) (h2 : m.length = n.length) : zip3 l m n = (List.range l.length).map fun j => xor3 (l.getD j 0) (m.getD j 0) (n.getD j 0) := by
  induction l generalizing m n with
  | nil => rfl
  | cons a l ih =>
    match m, n, h1, h2 with
    | b :: m, c :: n, h1, h2 =>
      simp only [List.length_cons, Nat.add_right_cancel_iff] at h1 h2
      simp only [zip3, List.length_cons, List.range_succ_eq_map, List.map_cons, List.map_map]
      rw [ih m n h1 h2]
      rfl
theorem getD_lt (s : ByteArray) (j : Nat) : (bytesN s).getD j 0 < 256 := by
  rw [List.getD_eq_getElem?_getD]
  cases h : (bytesN s)[j]? with
  | none => simp
  | some x => exact bytesN_lt s x (List.mem_of_getElem? h)
theorem X_lt (a b c : ByteArray) (j : Nat) : X a b c j < 256 :=
  Nat.xor_lt_two_pow (n := 8) (Nat.xor_lt_two_pow (n := 8) (getD_lt a j) (getD_lt b j)) (getD_lt c j)
theorem bytesN_nums (l : List Nat) (h : ∀ x ∈ l, x < 256) : bytesN (strOfNums (l.map (fun x : Nat => (x : Int)))) = l := by
  unfold bytesN
  rw [strOfNums_data, List.map_map, List.map_map]
  conv => rhs; rw [← List.map_id l]
  refine List.map_congr_left fun x hx => ?_
  have := h x hx
  simp [UInt8.toNat_ofNat_of_lt' this]
theorem sums (a b c : ByteArray) (n : Nat) (ha : a.size = n) (hb : b.size = n) (hc : c.size = n) :
    crcSum (bytesN (strOfNums (((List.range n).map (X a b c)).map (fun x : Nat => (x : Int))))) = xor3 (crcSum (bytesN a)) (crcSum (bytesN b)) (crcSum (bytesN c)) := by
  rw [bytesN_nums _ (by intro x hx; obtain ⟨j, _, rfl⟩ := List.mem_map.1 hx; exact X_lt a b c j)]
  rw [← crcSum_xor3 _ _ _ (by rw [bytesN_length, bytesN_length, ha, hb]) (by rw [bytesN_length, bytesN_length, hb, hc]), zip3_eq _ _ _ (by rw [bytesN_length, bytesN_length, ha, hb]) (by rw [bytesN_length, bytesN_length, hb, hc]), bytesN_length, ha]
  rfl
set_option maxHeartbeats 4000000 in
set_option maxRecDepth 100000 in
theorem law (a b c : ByteArray) (w : World) (ha0 : a.size ≤ maxLen) (ha : a.size ≤ 140737488351232) (hb0 : b.size ≤ maxLen) (hb : b.size ≤ 140737488351232) (hc0 : c.size ≤ maxLen) (hc : c.size ≤ 140737488351232) :
    Calls Try.prog 3 #[.string a, .string b, .string c] w fun e w' => e = .returned (.bool true) ∧ Below w.heap.size w w' := by
  clear ha0 hb0 hc0
  have K1 : Hid (crcSum (bytesN ⟨#[]⟩) = 65535) := (by decide +kernel : crcSum (bytesN ⟨#[]⟩) = 65535)
  have K2 : Hid (crcSum (bytesN ⟨#[49, 50, 51, 52, 53, 54, 55, 56, 57]⟩) = 10673) := (by decide +kernel : crcSum (bytesN ⟨#[49, 50, 51, 52, 53, 54, 55, 56, 57]⟩) = 10673)
  obtain ⟨n, hn⟩ : ∃ n, n = min (min a.size b.size) c.size := ⟨_, rfl⟩
  have HN := Lib.hid hn
  have hna : n ≤ a.size := by omega
  have hnb : n ≤ b.size := by omega
  have hnc : n ≤ c.size := by omega
  obtain ⟨i0, hi, hz0, hz1, hz2⟩ := info_parts info
  have hmk : ∀ W, (Instr.makeSlice 24 (.int .i64 n) (.int .i64 n)).run Try.prog W = .ok (.slice (some ⟨W.heap.size, 0, none⟩) n n) (W.alloc (.cells (madeCells #[Value.int .u8 0] n) 5)) := by
    intro W
    have := run_make (P := Try.prog) W 24 5 i0 (.int .u8 0) Try.underlying24 hi hz0 .i64 .i64 n n (by omega) (by omega) (by rw [hz2]; omega) (by omega)
    rw [hz1] at this
    simpa [Value.cells] using this
  clear hn hi hz0 hz1 hz2
  obtain ⟨a1, ea⟩ : ∃ a1, a.extract 0 n = a1 := ⟨_, rfl⟩
  obtain ⟨b1, eb⟩ : ∃ b1, b.extract 0 n = b1 := ⟨_, rfl⟩
  obtain ⟨c1, ec⟩ : ∃ c1, c.extract 0 n = c1 := ⟨_, rfl⟩
  have sa : a1.size = n := by rw [← ea, ByteArray.size_extract]; omega
  have sb : b1.size = n := by rw [← eb, ByteArray.size_extract]; omega
  have sc : c1.size = n := by rw [← ec, ByteArray.size_extract]; omega
  have SA := Lib.hid sa; have SB := Lib.hid sb; have SC := Lib.hid sc
  clear sa sb sc
  go_enter Try.func3, Try.ntmps3
  go_wp2_with fail
  refine (sum_is _ (by decide) _ 65535 K1.out).mono ?_
  rintro e w' ⟨rfl, rfl⟩
  go_wp2_with fail
  refine (sum_is _ (by unfold maxLen; decide) _ 10673 K2.out).mono ?_
  rintro e w' ⟨rfl, rfl⟩
  go_upto_region 3 with (fail)
  go_cut [7] (fun p wx => p = .int .i64 n ∧ w = wx)
  case first =>
    go_wp2
    all_goals (go_meet; have h1 := HN.out; exact ⟨by congr 1; omega, rfl⟩)
  case rest =>
    obtain ⟨rfl, rfl⟩ := hcut
    go_wp2
    go_quiet (fail)
    clear ea eb ec
    go_wp2
    go_loopw [36] (fun i wr => ∃ k : Nat, k ≤ n ∧ i = .int .i64 k ∧ Below w.heap.size w wr ∧ w.heap.size < wr.heap.size ∧
        (∀ j, j < n → wr.cell? ⟨w.heap.size, j, none⟩ = some (.int .u8 ((if j < k then X a1 b1 c1 j else 0 : Nat) : Int))) ∧ (∀ o, wr.frozen? ⟨w.heap.size, o, none⟩ = false)) (fun i _ => n - (intOf i).toNat)
    case atStart =>
      refine ⟨0, Nat.zero_le _, rfl, ?_, by simp, ?_, ?_⟩
      · repeat (first | exact Below.refl _ _ | refine Below.setCell ?_ (by first | (simp; done) | omega | (simp; omega)) _ | refine below_drewN ?_ _ | refine Below.drew ?_ | refine Below.alloc ?_ (by first | (simp; done) | omega | (simp; omega)) _)
      · intro j hj
        simp only [Nat.not_lt_zero, if_false]
        exact at_new (w.drewN nq) n j hj
      · intro o; exact fr_new (w.drewN nq) n o
    case round =>
      obtain ⟨k, hk, rfl, hB, hsz, hcell, hfz⟩ := hrel
      have HC := Lib.hid hcell; have HF := Lib.hid hfz
      by_cases hlt : k < n
      · have hcx := hcell k hlt
        rw [if_neg (by omega)] at hcx
        have hfx := hfz k
        clear hcell hfz
        have ka : k < a1.size := by rw [SA.out]; exact hlt
        have kb : k < b1.size := by rw [SB.out]; exact hlt
        have kc : k < c1.size := by rw [SC.out]; exact hlt
        have HX : Hid (X a1 b1 c1 k = a1[k].toNat ^^^ b1[k].toNat ^^^ c1[k].toNat) := (by unfold X xor3; rw [bytesN_getD a1 k ka, bytesN_getD b1 k kb, bytesN_getD c1 k kc] : X a1 b1 c1 k = a1[k].toNat ^^^ b1[k].toNat ^^^ c1[k].toNat)
        have e1 := u8_xor_nat a1[k].toNat b1[k].toNat a1[k].toNat_lt b1[k].toNat_lt
        have e2 := u8_xor_nat (a1[k].toNat ^^^ b1[k].toNat) c1[k].toNat (Nat.xor_lt_two_pow (n := 8) a1[k].toNat_lt b1[k].toNat_lt) c1[k].toNat_lt
        go_wp2
        refine wp_region_still_tail 14 (by kernel_rfl) (by kernel_rfl) ?_
        simp only [List.take_succ_cons, List.take_zero, List.drop_succ_cons, List.drop_zero]
        repeat still_step
        refine wpStill_nil ?_
        change wpList _ _ _ _ _ wr.drew
        clear e1 e2
        go_wp2

        go_roundw
        case rel =>
          refine ⟨k + 1, by omega, by go_num, by repeat (first | exact Below.refl _ _ | exact hB | refine Below.setCell ?_ (by first | (simp; done) | omega | (simp; omega)) _ | refine below_drewN ?_ _ | refine Below.drew ?_ | refine Below.alloc ?_ (by first | (simp; done) | omega | (simp; omega)) _), by simpa using hsz, ?_, ?_⟩
          · intro j hj
            by_cases hjk : j = k
            · subst hjk
              rw [if_pos (by omega), HX.out]
              go_simp
            · have h1 := HC.out j hj
              have e : (if j < k + 1 then X a1 b1 c1 j else 0) = (if j < k then X a1 b1 c1 j else 0) := by
                by_cases h2 : j < k
                · rw [if_pos h2, if_pos (by omega)]
                · rw [if_neg h2, if_neg (by omega)]
              rw [e]
              go_simp
          · intro o
            have h1 := HF.out o
            go_simp
        case measure => simp [intOf]; omega
      · obtain rfl : k = n := by omega
        have hcv : (convert 24 9 (.slice (some ⟨w.heap.size, 0, none⟩) k k)).run Try.prog wr = .ok (.string (strOfNums (((List.range k).map (X a1 b1 c1)).map (fun x : Nat => (x : Int))))) wr := by
          refine run_convert_bytes_arg _ _ _ Try.underlying24 Try.underlying5 w.heap.size 0 k k _ (by simp) (fun i hi => ?_) _ Try.underlying9
          have h1 := hcell i hi
          rw [if_pos hi] at h1
          rw [Nat.zero_add, h1]
          simp [hi]
        have hsum := sums a1 b1 c1 k SA.out SB.out SC.out
        have hsz4 : (strOfNums (((List.range k).map (X a1 b1 c1)).map (fun x : Nat => (x : Int)))).size ≤ maxLen := by rw [strOfNums_size]; unfold maxLen; simp; omega
        have HS4 := Lib.hid hsz4; have HSUM := Lib.hid hsum
        clear hcell hfz hsz4 hsum
        obtain ⟨d1, ed⟩ : ∃ d1, strOfNums (((List.range k).map (X a1 b1 c1)).map (fun x : Nat => (x : Int))) = d1 := ⟨_, rfl⟩
        rw [ed] at hcv HS4 HSUM
        clear ed
        have la := crcSum_lt a1; have lb := crcSum_lt b1; have lc := crcSum_lt c1
        have x1 := u16_xor_nat (crcSum (bytesN a1)) (crcSum (bytesN b1)) la lb
        have x2 := u16_xor_nat (crcSum (bytesN a1) ^^^ crcSum (bytesN b1)) (crcSum (bytesN c1)) (Nat.xor_lt_two_pow (n := 16) la lb) lc
        have x3 : crcSum (bytesN a1) ^^^ crcSum (bytesN b1) ^^^ crcSum (bytesN c1) = crcSum (bytesN d1) := by rw [HSUM.out]; rfl
        rw [x3] at x2
        clear x3 HSUM
        go_wp2_with fail
        refine (crcSum_any d1 HS4.out _).mono ?_
        rintro e w' ⟨rfl, rfl⟩
        go_wp2_with fail
        refine (crcSum_any a1 (by rw [SA.out]; unfold maxLen; omega) _).mono ?_
        rintro e w' ⟨rfl, rfl⟩
        go_wp2_with fail
        refine (crcSum_any b1 (by rw [SB.out]; unfold maxLen; omega) _).mono ?_
        rintro e w' ⟨rfl, rfl⟩
        go_wp2_with fail
        refine (crcSum_any c1 (by rw [SC.out]; unfold maxLen; omega) _).mono ?_
        rintro e w' ⟨rfl, rfl⟩
        go_wp2
        go_ret
        refine ⟨ret_bool (by first | rfl | (simp; done)), ?_⟩
        repeat (first | exact Below.refl _ _ | exact hB | refine Below.setCell ?_ (by first | (simp; done) | omega | (simp; omega)) _ | refine below_drewN ?_ _ | refine Below.drew ?_ | refine Below.alloc ?_ (by first | (simp; done) | omega | (simp; omega)) _)
set_option maxRecDepth 100000 in
theorem lifted (os : Os) (started : os.Started) (H : Type) (enc : TypeId × Value → H) :
    ReturnsInHanded {} Try.checked os 3 .any (Rows.crcLinearSpec.pre6 enc Try.prog Try.f3 Rows.crcLinearRow.domain false) (Rows.crcLinearSpec.post enc Try.prog Try.f3 false true false false) := by
  refine returnsInHanded_of_change_sized (C := Try.checked) own started (by kernel_rfl) Try.func3
    (ChangeSpec.witness6 (enc := enc) (C := Try.checked) false ⟨#[], #[.string ByteArray.empty, .string ByteArray.empty, .string ByteArray.empty], []⟩ 8 (by kernel_rfl) (by kernel_rfl) (by kernel_rfl) (by kernel_rfl)) ?_
  intro W base args ds gs before hval0 hW hcnd hsz0 _
  have hsz : (DataW.weightsEach Try.prog (Try.f3.params.toList ++ Rows.crcLinearSpec.plain.varTypes Try.prog) (ds ++ gs)).all (· ≤ reachBytes) = true := hsz0
  have hval : ∀ (j : Nat) t v, Try.f3.params[j]? = some t → args[j]? = some v → Value.okWide Try.prog W .any base t v := hval0
  have hW' := hW
  obtain ⟨p, q, hA0, hV, rfl, hfz, hnd⟩ := hW
  have hA : DataW.TrodAll enc Try.prog W 0 (fun _ => true) true Try.f3.params.toList args.toList ds p := hA0
  rw [Try.params3] at hA hval hsz
  obtain ⟨v0, vs0, d0, ds0, p0, q0, hargs, rfl, rfl, h0, r0⟩ := trodAll_cons hA
  obtain ⟨v1, vs1, d1, ds1, p1, q1, rfl, rfl, rfl, h1, r1⟩ := trodAll_cons r0
  obtain ⟨v2, vs2, d2, ds2, p2, q2, rfl, rfl, rfl, h2, r2⟩ := trodAll_cons r1
  obtain ⟨rfl, rfl, rfl⟩ := trodAll_nil r2
  obtain rfl : args = #[v0, v1, v2] := by cases args; simp_all
  obtain ⟨rfl, rfl⟩ := trodVars_none hV
  have k0 := h0
  have lt0 : ∀ x ∈ p0, x.block < W.heap.size := by obtain ⟨m, hm⟩ := k0; exact DataW.trod_lt m _ _ _ hm
  have k1 := h1
  have lt1 : ∀ x ∈ p1, x.block < W.heap.size := by obtain ⟨m, hm⟩ := k1; exact DataW.trod_lt m _ _ _ hm
  have k2 := h2
  have lt2 : ∀ x ∈ p2, x.block < W.heap.size := by obtain ⟨m, hm⟩ := k2; exact DataW.trod_lt m _ _ _ hm
  obtain ⟨a0, rfl, rfl, rfl, w0⟩ := Go.ChangeMaps.open_string Try.underlying9 (hval 0 9 v0 rfl rfl) h0
  have R0 : a0.size ≤ 140737488351232 := by have := sized_string hsz (j := 0) (t := 9) (bytes := a0.data.toList) rfl rfl; simpa [reachBytes] using this
  obtain ⟨a1, rfl, rfl, rfl, w1⟩ := Go.ChangeMaps.open_string Try.underlying9 (hval 1 9 v1 rfl rfl) h1
  have R1 : a1.size ≤ 140737488351232 := by have := sized_string hsz (j := 1) (t := 9) (bytes := a1.data.toList) rfl rfl; simpa [reachBytes] using this
  obtain ⟨a2, rfl, rfl, rfl, w2⟩ := Go.ChangeMaps.open_string Try.underlying9 (hval 2 9 v2 rfl rfl) h2
  have R2 : a2.size ≤ 140737488351232 := by have := sized_string hsz (j := 2) (t := 9) (bytes := a2.data.toList) rfl rfl; simpa [reachBytes] using this
  clear hA0 hval0
  refine (law a0 a1 a2 W w0 R0 w1 R1 w2 R2).mono fun e W' ⟨he, bel⟩ => ?_
  subst he
  exact ⟨_, rfl, _, _, _, [], _, [], hW', trodAll_mk1 (shut_bool Try.underlying4 _), (trodAll_cons_mk (Below.trod laidOut (by kernel_rfl) (of_decide_eq_true (by kernel_rfl)) k0 bel lt0) (trodAll_cons_mk (Below.trod laidOut (by kernel_rfl) (of_decide_eq_true (by kernel_rfl)) k1 bel lt1) (trodAll_cons_mk (Below.trod laidOut (by kernel_rfl) (of_decide_eq_true (by kernel_rfl)) k2 bel lt2) trodAll_mk0))), rfl, bel.frame _, fun h => by cases h⟩
theorem over : Rows.crcLinearRow.holds Try.pinned (OpenSpec.ofChange Rows.crcLinearSpec) :=
  OpenClaim.holds_of_wide 3 Try.f3 rfl rfl rfl rfl rfl rfl rfl ⟨rfl, rfl, rfl, rfl, rfl⟩ rfl rfl rfl rfl rfl (by kernel_rfl) Try.func3 (by kernel_rfl)
    (of_decide_eq_true (by kernel_rfl)) (by unfold Func.isWrapper; first | (rw [if_pos (by decide +kernel)]; kernel_rfl) | (rw [if_neg (by decide +kernel)]; exact ⟨rfl, rfl⟩))
    (fun os started H enc _ => lifted os started H enc)
theorem proved : Rows.CrcLinearSaid := over
#print axioms proved

end Go.Proofs.Ytdmagoimfblopaa.crcLinear
