/- What the functions of package frame compute. -/
import Derived.Test.YtglagndpholejaaSlc
import Derived.Test.YtglagndpholejaaCrc
import Derived.Laws.BytesArg
import Derived.StillTailTactics
namespace Go.Proofs.Ytglagndpholejaa
open Go.ChangeShapes Go.WideShapes Go.ChangeAt Go.RowKit
set_option linter.unusedVariables false

/-- is a frame right -/
def frameChk (k l n : Int) : Int := if l < 0 ∨ 4 ≤ l ∨ k < 1 ∨ 2 < k then 1 else if 8 < n then 2 else 0
abbrev frameV (k l q : Int) (v : Value) : Value := .agg #[.int .i64 k, .int .i64 l, .int .u8 q, v]
set_option maxHeartbeats 4000000 in
theorem frameCheck_any (k l q : Int) (a : Option Addr) (n cap : Nat) (w : World) (hk : -9223372036854775808 ≤ k ∧ k ≤ 9223372036854775807) (hl : -9223372036854775808 ≤ l ∧ l ≤ 9223372036854775807) (hn : n ≤ 9223372036854775807) :
    Calls Try.prog 59 #[frameV k l q (.slice a n cap)] w fun e w' => e = .returned (.int .i64 (frameChk k l n)) ∧ w.alloc (.cells #[.int .i64 k, .int .i64 l, .int .u8 q, .slice a n cap] 77) = w' := by
  have hcase : (l < 0 ∧ frameChk k l n = 1) ∨ ((decide (l < 0) = false ∧ 4 ≤ l) ∧ frameChk k l n = 1) ∨ ((decide (l < 0) = false ∧ decide (4 ≤ l) = false ∧ k < 1) ∧ frameChk k l n = 1) ∨ ((decide (l < 0) = false ∧ decide (4 ≤ l) = false ∧ decide (k < 1) = false ∧ 2 < k) ∧ frameChk k l n = 1) ∨
      ((decide (l < 0) = false ∧ decide (4 ≤ l) = false ∧ decide (k < 1) = false ∧ decide (2 < k) = false ∧ 8 < (n : Int)) ∧ frameChk k l n = 2) ∨ ((decide (l < 0) = false ∧ decide (4 ≤ l) = false ∧ decide (k < 1) = false ∧ decide (2 < k) = false ∧ decide (8 < (n : Int)) = false) ∧ frameChk k l n = 0) := by
    simp only [decide_eq_false_iff_not]
    unfold frameChk
    by_cases h1 : l < 0
    · exact .inl ⟨h1, if_pos (by omega)⟩
    by_cases h2 : 4 ≤ l
    · exact .inr (.inl ⟨⟨h1, h2⟩, if_pos (by omega)⟩)
    by_cases h3 : k < 1
    · exact .inr (.inr (.inl ⟨⟨h1, h2, h3⟩, if_pos (by omega)⟩))
    by_cases h4 : 2 < k
    · exact .inr (.inr (.inr (.inl ⟨⟨h1, h2, h3, h4⟩, if_pos (by omega)⟩)))
    rw [if_neg (by omega)]
    by_cases h5 : 8 < (n : Int)
    · exact .inr (.inr (.inr (.inr (.inl ⟨⟨h1, h2, h3, h4, h5⟩, if_pos h5⟩))))
    · exact .inr (.inr (.inr (.inr (.inr ⟨⟨h1, h2, h3, h4, h5⟩, if_neg h5⟩))))
  rcases hcase with ⟨h, hv⟩ | ⟨⟨h1, h⟩, hv⟩ | ⟨⟨h1, h2, h⟩, hv⟩ | ⟨⟨h1, h2, h3, h⟩, hv⟩ | ⟨⟨h1, h2, h3, h4, h⟩, hv⟩ | ⟨⟨h1, h2, h3, h4, h5⟩, hv⟩
  all_goals
    rw [hv]; clear hv
    go_enter Try.func59, Try.ntmps59
    go_wp2
    go_ret
    exact ⟨rfl, rfl⟩

/-- a word's bytes, the highest first -/
def wordB (x : Int) : List Int := [x % 4294967296 / 16777216, x % 4294967296 / 65536 % 256, x % 4294967296 / 256 % 256, x % 256]
theorem info_byte : (Try.prog.info? 5).map (fun i => (i.zero, i.size, i.bytes)) = some (some (.int .u8 0), 1, 1) := by kernel_rfl
abbrev bytesV (bs : List Int) : List Value := bs.map (.int .u8)
set_option maxHeartbeats 4000000 in
theorem framePut_any (base : Nat) (v : Value) (bs : List Int) (x : Int) (w : World) (hown : w.ownsRow base 5 1 v bs.length (bytesV bs)) (hb : base ≤ w.heap.size) (hx : -2147483648 ≤ x ∧ x ≤ 2147483647) (hl : bs.length ≤ 4000) :
    Calls Try.prog 60 #[v, .int .i32 x] w fun e w' => ∃ v', e = .returned v' ∧ w'.ownsRow base 5 1 v' (bs ++ wordB x).length (bytesV (bs ++ wordB x)) ∧ Below base w w' := by
  obtain ⟨i0, hi, hz0, hz1, hz2⟩ := info_parts info_byte
  have HO := Lib.hid (hown.alloc (.cells #[.int .u8 (x % 4294967296 / 16777216), .int .u8 (x % 4294967296 / 65536 % 256), .int .u8 (x % 4294967296 / 256 % 256), .int .u8 (x % 256)] 5))
  have hbk : ∀ k, v.ownBlock = some k → base ≤ k := fun k e => (hown.lt k e).1
  have HBK := Lib.hid hbk
  clear hown hbk
  go_enter Try.func60, Try.ntmps60
  go_wp2_with (at_builtin; refine wpList_append_own _ rfl _ _ 56 rfl base 5 i0 (.int .u8 0) 1 1 Try.underlying56 hi hz0 hz1 hz2 rfl (by decide) _ _ _ rfl HO.out ⟨w.heap.size, 0, none⟩ 4 4 [.int .u8 (x % 4294967296 / 16777216), .int .u8 (x % 4294967296 / 65536 % 256), .int .u8 (x % 4294967296 / 256 % 256), .int .u8 (x % 256)] rfl rfl ?_ (by simp [Value.oneCell']) (by unfold maxLen; omega) (by omega) (by simp; omega) ?_)
  · intro j u h
    rcases (by have := (List.getElem?_eq_some_iff.1 h).1; simp at this; omega : j = 0 ∨ j = 1 ∨ j = 2 ∨ j = 3) with rfl | rfl | rfl | rfl <;> simp at h <;> subst h <;> (simp [Addr.add]; try go_simp)
  intro v' w1 hown' hgrow _
  go_wp2
  go_ret
  refine ⟨v', rfl, by simpa [wordB, bytesV] using hown', ((Below.refl _ _).alloc hb _).grown hgrow (by simp; omega) HBK.out⟩

theorem or_add (k m a b : Nat) (hm : 2 ^ k = m) (hb : b < m) (ha : a * m < 4294967296) (hb2 : b < 4294967296) : bits BinOp.or IntKind.u32 ((a * m : Nat) : Int) (b : Int) = ((a * m + b : Nat) : Int) := by
  subst hm
  have h1 := Nat.two_pow_add_eq_or_of_lt hb a
  rw [Nat.mul_comm (2 ^ k) a] at h1
  rw [Go.u32_or_nat _ b ha hb2, h1]
/-- the word of four bytes -/
def getW (a b c d : Int) : Int := if a < 128 then a * 16777216 + b * 65536 + c * 256 + d else a * 16777216 + b * 65536 + c * 256 + d - 4294967296
theorem ix_str (s : ByteArray) (k : Nat) (h : k < s.size) : ∀ w : World, (Instr.index 9 (.string s) (.int .i64 (k : Int))).run Try.prog w = .ok (.int .u8 (s[k].toNat : Int)) w := fun w => by
  rw [run_index_string (h := Try.underlying9), dif_pos ⟨by omega, by omega⟩]
  simp
theorem horner (x c : Nat) : x * 65536 + c * 256 = (x * 256 + c) * 256 := by omega
theorem getW_or (a b c d : Nat) (ha : a < 256) (hb : b < 256) (hc : c < 256) (hd : d < 256) :
    wrap32 (bits BinOp.or IntKind.u32 (bits BinOp.or IntKind.u32 (bits BinOp.or IntKind.u32 ((a : Int) * 16777216) ((b : Int) * 65536)) ((c : Int) * 256)) (d : Int)) = getW a b c d := by
  have h1 := or_add 24 16777216 a (b * 65536) rfl (by omega) (by omega) (by omega)
  have e1 : (a : Int) * 16777216 = ((a * 16777216 : Nat) : Int) := by omega
  have e2 : (b : Int) * 65536 = ((b * 65536 : Nat) : Int) := by omega
  rw [e1, e2, h1]
  have h2 := or_add 16 65536 (a * 256 + b) (c * 256) rfl (by omega) (by omega) (by omega)
  have e3 : a * 16777216 + b * 65536 = (a * 256 + b) * 65536 := by omega
  have e4 : (c : Int) * 256 = ((c * 256 : Nat) : Int) := by omega
  rw [e3, e4, h2]
  have h3 := or_add 8 256 ((a * 256 + b) * 256 + c) d rfl (by omega) (by omega) (by omega)
  rw [horner (a * 256 + b) c, h3]
  unfold getW wrap32
  split <;> omega
set_option maxHeartbeats 4000000 in
theorem frameGet_any (s : ByteArray) (h4 : 4 ≤ s.size) (w : World) :
    Calls Try.prog 71 #[.string s] w fun e w' => ∃ m, e = .returned (.int .i32 (getW (s[0]'(by omega)).toNat (s[1]'(by omega)).toNat (s[2]'(by omega)).toNat (s[3]'(by omega)).toNat)) ∧ w' = w.drewN m := by
  have b0 := (s[0]'(by omega)).toNat_lt
  have b1 := (s[1]'(by omega)).toNat_lt
  have b2 := (s[2]'(by omega)).toNat_lt
  have b3 := (s[3]'(by omega)).toNat_lt
  have l0 := ix_str s 0 (by omega)
  have l1 := ix_str s 1 (by omega)
  have l2 := ix_str s 2 (by omega)
  have l3 := ix_str s 3 (by omega)
  obtain ⟨n0, hn0⟩ : ∃ n, s[0].toNat = n := ⟨_, rfl⟩
  obtain ⟨n1, hn1⟩ : ∃ n, s[1].toNat = n := ⟨_, rfl⟩
  obtain ⟨n2, hn2⟩ : ∃ n, s[2].toNat = n := ⟨_, rfl⟩
  obtain ⟨n3, hn3⟩ : ∃ n, s[3].toNat = n := ⟨_, rfl⟩
  simp only [hn0, hn1, hn2, hn3] at *
  clear hn0 hn1 hn2 hn3
  rw [show ((0 : Nat) : Int) = 0 from rfl] at l0
  rw [show ((1 : Nat) : Int) = 1 from rfl] at l1
  rw [show ((2 : Nat) : Int) = 2 from rfl] at l2
  rw [show ((3 : Nat) : Int) = 3 from rfl] at l3
  go_enter Try.func71, Try.ntmps71
  go_wp2
  go_quiet (fail)
  go_wp2
  go_ret
  refine ⟨nq, ?_, rfl⟩
  exact ret_int (getW_or n0 n1 n2 n3 (by omega) (by omega) (by omega) (by omega))

theorem own_made (w : World) (E : TypeId) (vs : List Value) (base : Nat) (hb : base ≤ w.heap.size) (h1 : ∀ v ∈ vs, v.oneCell' = true) (hm : vs.length ≤ maxLen) :
    (w.alloc (.cells vs.toArray E)).ownsRow base E 1 (.slice (some ⟨w.heap.size, 0, none⟩) vs.length vs.length) vs.length vs :=
  ⟨by simp, .inr ⟨w.heap.size, vs.length, vs.toArray, rfl, hb, (by show (w.heap.push _)[w.heap.size]? = _; simp), Nat.le_refl _, hm, by simp, by simp⟩⟩
/-- a frame's bytes, without the checksum -/
def packB (k l q : Int) (n : Nat) (ws : List Int) : List Int := [k * 16 + l, q, (n : Int)] ++ ws.flatMap wordB
theorem packB_len (k l q : Int) (n : Nat) (ws : List Int) : (packB k l q n ws).length = 3 + 4 * ws.length := by
  unfold packB
  induction ws with
  | nil => rfl
  | cons x ws ih => simp [List.flatMap_cons, wordB] at ih ⊢; omega
theorem packB_snoc (k l q : Int) (n : Nat) (ws : List Int) (x : Int) : packB k l q n (ws ++ [x]) = packB k l q n ws ++ wordB x := by
  unfold packB; simp [List.flatMap_append]
def packS (k l q : Int) (ws : List Int) : ByteArray := putS (strOfNums (packB k l q ws.length ws))
theorem or_head (k l : Int) (hk : k = 1 ∨ k = 2) (hl : 0 ≤ l ∧ l < 4) : bits BinOp.or IntKind.i64 (k * 16) l = k * 16 + l ∧ (k * 16 + l) % 256 = k * 16 + l := by
  rcases hk with rfl | rfl <;> rcases (by omega : l = 0 ∨ l = 1 ∨ l = 2 ∨ l = 3) with rfl | rfl | rfl | rfl <;> exact ⟨by decide, by decide⟩
theorem ownB_conv {w : World} {base : Nat} {v : Value} {bs : List Int} (h : w.ownsRow base 5 1 v bs.length (bytesV bs)) (h0 : 0 < bs.length) :
    (convert 56 9 v).run Try.prog w = .ok (.string (strOfNums bs)) w := by
  rcases h.2 with ⟨-, hn⟩ | ⟨g, cap, cur, hv, hb, hblk, hl, hm, -, -⟩
  · omega
  · subst hv
    refine run_convert_bytes_arg _ _ _ Try.underlying56 Try.underlying5 g 0 _ cap bs rfl (fun i hi => ?_) _ Try.underlying9
    rw [Nat.zero_add, h.cellAt i (by omega)]
    simp [bytesV, hi]
def PackRel (w : World) (k l q : Int) (ws : List Int) (out i : Value) (wr : World) : Prop := ∃ j : Nat, j ≤ ws.length ∧ i = .int .i64 j ∧
  wr.ownsRow w.heap.size 5 1 out (packB k l q ws.length (ws.take j)).length (bytesV (packB k l q ws.length (ws.take j))) ∧ Below w.heap.size w wr
set_option maxHeartbeats 4000000 in
set_option maxRecDepth 100000 in
theorem pack_yes (k l q : Int) (v : Value) (ws : List Int) (w : World) (hv : IntsAt .i32 w v ws) (hk : k = 1 ∨ k = 2) (hl : 0 ≤ l ∧ l < 4) (hq : 0 ≤ q ∧ q ≤ 255) (hn : ws.length ≤ 8) (hws : ∀ x ∈ ws, -2147483648 ≤ x ∧ x ≤ 2147483647) :
    Calls Try.prog 41 #[frameV k l q v] w fun e w' => e = .returned (.tuple #[.string (packS k l q ws), .int .i64 0]) ∧ Below w.heap.size w w' := by
  obtain ⟨a, cap, rfl⟩ := hv.len
  obtain ⟨o1, o2⟩ := or_head k l hk hl
  have ok : frameChk k l (ws.length : Int) = 0 := by unfold frameChk; rw [if_neg (by omega), if_neg (by omega)]
  have hn2 : (ws.length : Int) % 256 = ws.length := by omega
  have kb : 0 ≤ k ∧ k ≤ 2 := by omega
  have HV := Lib.hid hv; have OK := Lib.hid ok; have HW := Lib.hid hws
  clear hv ok hws hk
  go_enter Try.func41, Try.ntmps41
  go_wp2_with fail
  refine (frameCheck_any k l q a ws.length cap _ (by omega) (by omega) (by omega)).mono ?_
  rw [OK.out]
  rintro e1 w1 ⟨rfl, rfl⟩
  go_wp2
  have own0 := own_made ((w.alloc (.cells #[.int .i64 k, .int .i64 l, .int .u8 q, .slice a ws.length cap] 77)).alloc (.cells #[.int .i64 k, .int .i64 l, .int .u8 q, .slice a ws.length cap] 77)) 5 [.int .u8 (k * 16 + l), .int .u8 q, .int .u8 (ws.length : Int)] w.heap.size (by simp; omega) (by simp [Value.oneCell']) (by unfold maxLen; simp)
  have HO0 := Lib.hid own0
  clear own0
  go_loopw [5, 30] (fun out i wr => PackRel w k l q ws out i wr) (fun _ i _ => ws.length - (intOf i).toNat)
  case atStart => exact ⟨0, by omega, rfl, by simpa [packB, bytesV] using HO0.out, by repeat (first | with_reducible exact Below.refl _ _ | ((with_reducible refine Below.setCell ?_ ?_ _); rotate_left; (· first | (simp; done) | omega | (simp; omega))) | with_reducible refine below_drewN ?_ _ | with_reducible refine Below.drew ?_ | ((with_reducible refine Below.alloc ?_ ?_ _); rotate_left; (· first | (simp; done) | omega | (simp; omega))) | exact Below.refl _ _ | refine Below.setCell ?_ (by first | (simp; done) | omega | (simp; omega)) _ | refine below_drewN ?_ _ | refine Below.drew ?_ | refine Below.alloc ?_ (by first | (simp; done) | omega | (simp; omega)) _)⟩
  case round =>
    obtain ⟨j, hj, rfl, hown, hB⟩ := hrel
    have HO := Lib.hid hown; have HB := Lib.hid hB
    have zB := hB.size
    clear hown hB
    by_cases hlt : j < ws.length
    · rcases HV.out with ⟨h0, -⟩ | ⟨-, b, off, cp, he, hl1, hm1, hc⟩
      · rw [h0] at hlt; simp at hlt
      simp only [Value.slice.injEq, true_and] at he
      obtain ⟨rfl, rfl⟩ := he
      have c1 := cell_later HB.out (hc j hlt)
      have hx := HW.out (ws.getD j 0) (by rw [List.getD_eq_getElem?_getD, List.getElem?_eq_getElem hlt]; exact List.getElem_mem hlt)
      have hts : Hid (ws.take (j + 1) = ws.take j ++ [ws.getD j 0]) := (by rw [List.take_succ_eq_append_getElem hlt, List.getD_eq_getElem?_getD, List.getElem?_eq_getElem hlt]; rfl : ws.take (j + 1) = ws.take j ++ [ws.getD j 0])
      obtain ⟨x, hxe⟩ : ∃ x, ws.getD j 0 = x := ⟨_, rfl⟩
      rw [hxe] at c1 hx hts
      have HX := Lib.hid hxe
      have d1 : (j : Int) < (ws.length : Int) := by omega
      clear hc hxe
      go_wp2_with fail
      refine (framePut_any w.heap.size _ (packB k l q ws.length (ws.take j)) x wr HO.out zB hx (by rw [packB_len]; simp; omega)).mono ?_
      rintro e4 w4 ⟨v4, rfl, hown4, hB4⟩
      go_wp2
      go_roundw
      case rel => exact ⟨j + 1, by omega, by go_num, by rw [hts.out, packB_snoc]; exact hown4, HB.out.trans hB4⟩
      case measure => simp [intOf]; omega
    · obtain rfl : j = ws.length := by omega
      have hcv := ownB_conv HO.out (by rw [packB_len]; omega)
      rw [List.take_length] at hcv
      have hS : Hid (packS k l q ws = putS (strOfNums (packB k l q ws.length ws))) := rfl
      have hsz : (strOfNums (packB k l q ws.length ws)).size ≤ 4093 := by rw [strOfNums_size, packB_len]; omega
      obtain ⟨sb, hsb⟩ : ∃ sb, strOfNums (packB k l q ws.length ws) = sb := ⟨_, rfl⟩
      rw [hsb] at hcv hS hsz
      clear hsb
      go_wp2_with fail
      refine (put_yes sb hsz _).mono ?_
      rw [← hS.out]
      rintro e4 w4 ⟨rfl, hB4⟩
      go_wp2
      go_ret2
      exact ⟨rfl, HB.out.trans (hB4.mono zB)⟩
set_option maxHeartbeats 4000000 in
theorem pack_no (k l q : Int) (a : Option Addr) (n cap : Nat) (w : World) (hk : -9223372036854775808 ≤ k ∧ k ≤ 9223372036854775807) (hl : -9223372036854775808 ≤ l ∧ l ≤ 9223372036854775807) (hn : n ≤ 9223372036854775807) (h : frameChk k l n ≠ 0) :
    Calls Try.prog 41 #[frameV k l q (.slice a n cap)] w fun e w' => e = .returned (.tuple #[.string ⟨#[]⟩, .int .i64 (frameChk k l n)]) ∧ Below w.heap.size w w' := by
  obtain ⟨c, hc⟩ : ∃ c, frameChk k l n = c := ⟨_, rfl⟩
  have HC := Lib.hid hc
  rw [hc] at h
  have d : (c != 0) = true := by simpa using h
  clear hc h
  rw [HC.out]
  go_enter Try.func41, Try.ntmps41
  go_wp2_with fail
  refine (frameCheck_any k l q a n cap _ hk hl hn).mono ?_
  rw [HC.out]
  rintro e1 w1 ⟨rfl, rfl⟩
  go_wp2
  go_ret2
  refine ⟨rfl, ?_⟩
  repeat (first | with_reducible exact Below.refl _ _ | ((with_reducible refine Below.setCell ?_ ?_ _); rotate_left; (· first | (simp; done) | omega | (simp; omega))) | with_reducible refine below_drewN ?_ _ | with_reducible refine Below.drew ?_ | ((with_reducible refine Below.alloc ?_ ?_ _); rotate_left; (· first | (simp; done) | omega | (simp; omega))) | exact Below.refl _ _ | refine Below.setCell ?_ (by first | (simp; done) | omega | (simp; omega)) _ | refine below_drewN ?_ _ | refine Below.drew ?_ | refine Below.alloc ?_ (by first | (simp; done) | omega | (simp; omega)) _)

end Go.Proofs.Ytglagndpholejaa
