/- odds.Odds: what it computes where all parts are sure, never, or one half. -/
import Derived.Test.YtiocgmioijcjhaaOddsF
import Derived.Test.YtiocgmioijcjhaaCutsIdx
import Derived.Test.YtiocgmioijcjhaaCells
namespace Go.Proofs.Ytiocgmioijcjhaa
open Go.ChangeShapes Go.WideShapes Go.ChangeAt Go.RowKit
set_option linter.unusedVariables false

abbrev TF : TypeId := 63
def pL (K : Nat → Nat) : List Value := (List.range 8).map fun i => .float .f64 (pv (K i))
def pV (K : Nat → Nat) : Array Value := (pL K).toArray
theorem pL_at (K : Nat → Nat) {i : Nat} (h : i < 8) : (pL K)[i]? = some (.float .f64 (pv (K i))) := by simp [pL, h]
theorem pV_at (K : Nat → Nat) {i : Nat} (h : i < 8) : (pV K)[i]? = some (.float .f64 (pv (K i))) := by
  unfold pV; rw [List.getElem?_toArray]; exact pL_at K h
theorem pV_size (K : Nat → Nat) : (pV K).size = 8 := by simp [pV, pL]
theorem p_index (K : Nat → Nat) {k : Nat} (hk : k < 8) (w : World) : (Instr.index TF (.agg (pV K)) (.int .i64 (k : Int))).run Try.prog w = .ok (.float .f64 (pv (K k))) w := by
  have hs : (sizeOf 60).run Try.prog w = .ok 1 w := by kernel_rfl
  have ha : (isAgg 60).run Try.prog w = .ok false w := by kernel_rfl
  have e1 : (0 : Int) ≤ (k : Int) ∧ (k : Int) < ((8 : Nat) : Int) := by omega
  unfold Instr.index
  simp only [asIntOf, Sem.run_bind, Sem.run_pure, Result.andThen_ok, run_underlying Try.underlying63 w]
  rw [if_pos e1]
  simp only [Sem.run_bind, hs, Result.andThen_ok, part, ha, Int.toNat_natCast, Nat.mul_one, pV_at K hk]
  rfl
theorem p_info (K : Nat → Nat) : (Try.prog.info? TF).map (·.size) = some (pV K).size := by rw [pV_size]; kernel_rfl
def FRel (K : Nat → Nat) (ts : List GateR) (w : World) (g : Nat) (sum s : Value) (wr : World) : Prop :=
  ∃ n : Nat, n ≤ 256 ∧ s = .int .u16 n ∧ sum = .float .f64 (fB (cntP K ts n) (halves K 8)) ∧ wr.heap[g]? = some (.cells (pV K) TF (0, 0)) ∧ Below w.heap.size w wr
def FIn (K : Nat → Nat) (n : Nat) (W : World) (one j : Value) (wr : World) : Prop :=
  ∃ m : Nat, m ≤ 8 ∧ j = .int .i64 m ∧ one = .float .f64 (pB (prodK K n m)) ∧ wr = W
set_option maxHeartbeats 16000000 in
set_option maxRecDepth 100000 in
theorem odds_yes (K : Nat → Nat) (hK : ∀ i, i < 8 → K i ≤ 2) (hA : AddOk (halves K 8)) (ts : List GateR) (v : Value) (w : World) (hv : GatesAt w v ts) (hok : TreeOk ts) :
    Calls Try.prog 33 #[v, .agg (pV K)] w fun e w' => e = .returned (.tuple #[.float .f64 (fB (cntP K ts 256) (halves K 8)), .int .i64 0]) ∧ Below w.heap.size w w' := by
  obtain ⟨a, cap, rfl⟩ := hv.len
  have HV := Lib.hid hv; have HOK := Lib.hid hok; have HK := Lib.hid hK; have HA := Lib.hid hA
  have hn2 := hok.2.1
  have R0 : Hid ((w.alloc (.cells (pV K) TF)).heap[w.heap.size]? = some (.cells (pV K) TF (0, 0))) := Lib.hid (heap_alloc_new w _)
  have B0 : Hid (Below w.heap.size w (w.alloc (.cells (pV K) TF))) := Lib.hid ((Below.refl _ _).alloc (Nat.le_refl _) _)
  clear hv hok hK hA
  go_enter Try.func33, Try.ntmps33
  go_wp2_with fail
  generalize w.alloc (.cells (pV K) TF) = w0 at *
  refine (cutsCheck_is ts _ _ (HV.out.later B0.out) (by omega)).mono ?_
  rintro e w1 ⟨h1, -, hb1⟩
  obtain rfl := h1 HOK.out
  have R1 : Hid (w1.heap[w.heap.size]? = some (.cells (pV K) TF (0, 0))) := Lib.hid ((hb1.block w.heap.size (Array.getElem?_eq_some_iff.1 R0.out).1).trans R0.out)
  have B1 := Lib.hid (B0.out.trans (hb1.mono B0.out.size))
  clear h1 hb1 R0 B0
  have hrow := R1.out
  have hinf := p_info K
  go_wp2_with (refine wpList_load_row rfl TF (.tmp 3) rfl w.heap.size (by simp [Act.eval]) TF (pV K) (0, 0) _ hrow Try.underlying63 rfl hinf ?_; go_frame)
  go_loopw [22] (fun i wr => (∃ k : Nat, k ≤ 8 ∧ i = .int .i64 k) ∧ wr = w1) (fun i _ => 8 - (intOf i).toNat)
  case atStart => exact ⟨⟨0, by omega, rfl⟩, rfl⟩
  case round =>
    obtain ⟨⟨k, hk, rfl⟩, rfl⟩ := hrel
    by_cases hlt : k < 8
    · have e5 : (k : Int) < 8 := by omega
      have hix := p_index K hlt
      obtain ⟨c1, c2⟩ := cmp_is (HK.out k hlt)
      clear hrow hinf
      go_wp2_with fail
      go_roundw
      case rel => exact ⟨⟨k + 1, by omega, by go_num⟩, by trivial⟩
      case measure => simp [intOf]; omega
    · obtain rfl : k = 8 := by omega
      rw [show ((8 : Nat) : Int) = 8 from rfl]
      have S0 : Hid ((0 : Nat) = fB (cntP K ts 0) (halves K 8)) := Lib.hid (fB_zero' (halves_le K 8)).symm
      clear hrow hinf
      go_wp2_with fail
      go_loopw [9, 33] (fun sum s wx => FRel K ts w w.heap.size sum s wx) (fun _ s _ => 256 - (intOf s).toNat)
      case atStart => exact ⟨0, by omega, rfl, congrArg (Value.float .f64) S0.out, R1.out, B1.out⟩
      case round =>
        clear R1 B1 S0
        obtain ⟨n, hn, rfl, rfl, hr, hB⟩ := hrel
        have HR := Lib.hid hr; have HB := Lib.hid hB
        have zB := hB.size
        by_cases hlt2 : n < 256
        · have e5 : (n : Int) < 256 := by omega
          have huw : IntKind.u16.wrap ((n : Int) + 1) = (n : Int) + 1 := IntWalk.u16_in _ (by omega)
          clear hr hB
          obtain ⟨S, hS⟩ : ∃ S, fB (cntP K ts n) (halves K 8) = S := ⟨_, rfl⟩
          have HS := Lib.hid hS
          rw [hS]
          clear hS
          go_wp2_with fail
          refine (cutsFails_yes ts n _ _ (HV.out.later HB.out) HOK.out (by omega)).mono ?_
          rintro e w8 ⟨rfl, hb8⟩
          have R8 : Hid (w8.heap[w.heap.size]? = some (.cells (pV K) TF (0, 0))) := Lib.hid ((hb8.block w.heap.size (Array.getElem?_eq_some_iff.1 HR.out).1).trans HR.out)
          have B8 := Lib.hid (HB.out.trans (hb8.mono zB))
          clear hb8
          cases ht : topB ts n
          · have HC := Lib.hid (cnt_skip K ts n ht)
            clear ht
            go_wp2_with fail
            go_roundw
            case rel => exact ⟨n + 1, by omega, by go_num, by rw [HC.out, HS.out], R8.out, B8.out⟩
            case measure => simp [intOf]; omega
          · have HC := Lib.hid (sum_is K HK.out HA.out ts n hlt2 ht)
            rw [HS.out] at HC
            have hrow := R8.out
            have hinf := p_info K
            have P0 : Hid (fOne = pB (prodK K n 0)) := Lib.hid pB_zero.symm
            clear ht
            go_wp2_with (refine wpList_load_row rfl TF (.tmp 3) rfl w.heap.size (by simp [Act.eval]) TF (pV K) (0, 0) _ hrow Try.underlying63 rfl hinf ?_; go_frame)
            clear hrow hinf
            go_loopw [13, 45] (fun one j wx => FIn K n w8 one j wx) (fun _ j _ => 8 - (intOf j).toNat)
            case atStart => exact ⟨0, by omega, rfl, by rw [← P0.out], rfl⟩
            case round =>
              obtain ⟨m, hm, rfl, rfl, rfl⟩ := hrel
              by_cases hlt3 : m < 8
              · have e7 : (m : Int) < 8 := by omega
                have hix := p_index K hlt3
                have hm16 : min m 16 = m := by omega
                have hkm := HK.out m hlt3
                have eb : (bits BinOp.and IntKind.u16 ((n : Int) / 2 ^ m) 1 == 1) = n.testBit m := by
                  have := bit_is n m (2 ^ m) (by omega) rfl
                  rwa [Int.natCast_pow] at this
                have hmul := mul_is (o := prodK K n m) (κ := fac (n.testBit m) (K m)) (fun j hj => Nat.le_trans (prod_le K HK.out n m hm j hj) hm) (by unfold fac; split <;> omega)
                have hstep : prodK K n (m + 1) = mulP (prodK K n m) (fac (n.testBit m) (K m)) := rfl
                rw [← hstep] at hmul
                obtain ⟨A, hAe⟩ : ∃ A, pB (prodK K n m) = A := ⟨_, rfl⟩
                rw [hAe] at hmul ⊢
                clear hstep hAe
                cases hb : n.testBit m
                · rw [hb] at eb hmul
                  have hsub := sub_is hkm
                  have ef : fac false (K m) = 2 - K m := rfl
                  rw [ef] at hmul
                  obtain ⟨x, hx⟩ : ∃ x, pv (K m) = x := ⟨_, rfl⟩
                  rw [hx] at hsub hix
                  have rs : ∀ w, (binOp .sub 60 (.float .f64 fOne) (.float .f64 x)).run Try.prog w = .ok (.float .f64 (pv (2 - K m))) w := fun w => run_float_arith w _ _ _ _ _ _ hsub
                  have rm : ∀ w, (binOp .mul 60 (.float .f64 A) (.float .f64 (pv (2 - K m)))).run Try.prog w = .ok (.float .f64 (pB (prodK K n (m + 1)))) w := fun w => run_float_arith w _ _ _ _ _ _ hmul
                  clear hsub hmul ef hb hx hkm
                  go_wp2_with fail
                  go_roundw
                  case rel => exact ⟨m + 1, by omega, by go_num, rfl, by trivial⟩
                  case measure => simp [intOf]; omega
                · rw [hb] at eb hmul
                  have ef : fac true (K m) = K m := rfl
                  rw [ef] at hmul
                  obtain ⟨x, hx⟩ : ∃ x, pv (K m) = x := ⟨_, rfl⟩
                  rw [hx] at hmul hix
                  have rm : ∀ w, (binOp .mul 60 (.float .f64 A) (.float .f64 x)).run Try.prog w = .ok (.float .f64 (pB (prodK K n (m + 1)))) w := fun w => run_float_arith w _ _ _ _ _ _ hmul
                  clear hmul ef hb hx hkm
                  go_wp2_with fail
                  go_roundw
                  case rel => exact ⟨m + 1, by omega, by go_num, rfl, by trivial⟩
                  case measure => simp [intOf]; omega
              · obtain rfl : m = 8 := by omega
                rw [show ((8 : Nat) : Int) = 8 from rfl]
                obtain ⟨A, hAe⟩ : ∃ A, pB (prodK K n 8) = A := ⟨_, rfl⟩
                rw [hAe] at HC ⊢
                have ra : ∀ w, (binOp .add 60 (.float .f64 S) (.float .f64 A)).run Try.prog w = .ok (.float .f64 (fB (cntP K ts (n + 1)) (halves K 8))) w := fun w => run_float_arith w _ _ _ _ _ _ HC.out
                clear hAe
                go_wp2_with fail
                go_roundw
                case rel => exact ⟨n + 1, by omega, by go_num, rfl, R8.out, B8.out⟩
                case measure => simp [intOf]; omega
        · obtain rfl : n = 256 := by omega
          rw [show ((256 : Nat) : Int) = 256 from rfl]
          clear hr hB
          go_wp2_with fail
          go_ret2
          exact ⟨rfl, HB.out⟩
set_option maxHeartbeats 4000000 in
set_option maxRecDepth 100000 in
theorem odds_no (K : Nat → Nat) (ts : List GateR) (v : Value) (w : World) (hv : GatesAt w v ts) (hok : ¬ TreeOk ts) (hm : ts.length ≤ 281474976710656) :
    Calls Try.prog 33 #[v, .agg (pV K)] w fun e w' => (∃ c : Int, c ≠ 0 ∧ e = .returned (.tuple #[.float .f64 0, .int .i64 c])) ∧ Below w.heap.size w w' := by
  obtain ⟨a, cap, rfl⟩ := hv.len
  have HV := Lib.hid hv; have HOK := Lib.hid hok
  have B0 : Hid (Below w.heap.size w (w.alloc (.cells (pV K) TF))) := Lib.hid ((Below.refl _ _).alloc (Nat.le_refl _) _)
  clear hv hok
  go_enter Try.func33, Try.ntmps33
  go_wp2_with fail
  generalize w.alloc (.cells (pV K) TF) = w0 at *
  refine (cutsCheck_is ts _ _ (HV.out.later B0.out) hm).mono ?_
  rintro e w1 ⟨-, h1, hb1⟩
  obtain ⟨c, hc, rfl⟩ := h1 HOK.out
  have hcb : (c == 0) = false := by simpa using hc
  have hc2 : (c != 0) = true := by simpa using hc
  have HC := Lib.hid hc
  have B1 := Lib.hid (B0.out.trans (hb1.mono B0.out.size))
  clear h1 hc hb1
  go_wp2_with fail
  go_ret2
  exact ⟨⟨c, HC.out, rfl⟩, B1.out⟩

end Go.Proofs.Ytiocgmioijcjhaa
