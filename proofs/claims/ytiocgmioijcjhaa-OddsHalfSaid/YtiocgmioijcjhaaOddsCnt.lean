/- odds.Count: how many sets of parts let the top gate fail. -/
import Derived.Test.YtiocgmioijcjhaaOddsTab
import Derived.Test.YtiocgmioijcjhaaCutsLeast
import Derived.Test.YtiocgmioijcjhaaGateLaw
namespace Go.Proofs.Ytiocgmioijcjhaa
open Go.ChangeShapes Go.WideShapes Go.ChangeAt Go.RowKit
set_option linter.unusedVariables false

/-- the contract of cuts.Cuts on a tree -/
def CutsIs : Prop := ∀ (ts : List GateR) (v : Value) (w : World), GatesAt w v ts → TreeOk ts →
    Calls Try.prog 16 #[v] w fun e w' => (∃ v', e = .returned (.tuple #[v', .int .i64 0]) ∧ IntsAt .u16 w' v' (u16s (cutsL ts))) ∧ Below w.heap.size w w'
def CutsNo : Prop := ∀ (ts : List GateR) (v : Value) (w : World), GatesAt w v ts → ¬ TreeOk ts → ts.length ≤ 281474976710656 →
    Calls Try.prog 16 #[v] w fun e w' => (∃ c : Int, c ≠ 0 ∧ e = .returned (.tuple #[.slice none 0 0, .int .i64 c])) ∧ Below w.heap.size w w'
def TabRel (l : List Nat) (w : World) (i : Value) (wr : World) : Prop :=
  ∃ k : Nat, k ≤ l.length ∧ i = .int .i64 k ∧ TabAt wr w.heap.size (tabL (l.take k)) ∧ Below w.heap.size w wr
def TabIn (T : Tab) (c : Nat) (w : World) (j : Value) (wr : World) : Prop :=
  ∃ m : Nat, m ≤ 256 ∧ j = .int .i64 m ∧ TabAt wr w.heap.size (subM T (add1 T c) c m) ∧ Below w.heap.size w wr
def SumRel (T : Tab) (w : World) (s i : Value) (wr : World) : Prop :=
  ∃ m : Nat, m ≤ 256 ∧ i = .int .i64 m ∧ s = .int .i64 (W64 (sumTo m fun u => T u * 2 ^ (8 - pc u))) ∧ Below w.heap.size w wr
theorem tab_take {l : List Nat} {k c : Nat} (h : l[k]? = some c) : tabL (l.take (k + 1)) = nextT (tabL (l.take k)) c := by
  unfold tabL
  rw [List.take_add_one, h, List.foldl_append]; rfl
set_option maxHeartbeats 16000000 in
set_option maxRecDepth 100000 in
theorem count_yes (hC : CutsIs) (ts : List GateR) (v : Value) (w : World) (hv : GatesAt w v ts) (hok : TreeOk ts) :
    Calls Try.prog 30 #[v] w fun e w' => e = .returned (.tuple #[.int .i64 (cntT ts), .int .i64 0]) ∧ Below w.heap.size w w' := by
  obtain ⟨a, cap, rfl⟩ := hv.len
  have HV := Lib.hid hv; have HOK := Lib.hid hok; have HC := Lib.hid hC
  have hz := tab_zero
  clear hv hok hC
  go_enter Try.func30, Try.ntmps30
  go_wp2_with fail
  refine (HC.out ts _ _ HV.out HOK.out).mono ?_
  rintro e w2 ⟨⟨v2, rfl, hi2⟩, hb2⟩
  have HA := Lib.hid (cuts_anti HOK.out)
  have HCT := Lib.hid (cnt_cuts HOK.out)
  have lL0 := anti_len HA.out
  obtain ⟨l, hl⟩ : ∃ l, cutsL ts = l := ⟨_, rfl⟩
  rw [hl] at hi2 HA HCT lL0
  obtain ⟨a2, c2, hv2⟩ := hi2.len
  rw [u16s_len] at hv2
  subst hv2
  have I2 := Lib.hid hi2
  have B2 := Lib.hid hb2
  have HCI := Lib.hid (count_is HA.out.1)
  clear hi2 hb2 hl
  have T0 : Hid (TabAt (w2.alloc (.cells (tabV fun _ => 0) TTab)) w2.heap.size (tabL (l.take 0))) := Lib.hid (TabAt.new w2 _)
  have B3 : Hid (Below w2.heap.size w2 (w2.alloc (.cells (tabV fun _ => 0) TTab))) := Lib.hid ((Below.refl _ _).alloc (Nat.le_refl _) _)
  go_wp2_with fail
  generalize w2.alloc (.cells (tabV fun _ => 0) TTab) = w3 at *
  go_loopw [25] (fun i wr => TabRel l w2 i wr) (fun i _ => l.length - (intOf i).toNat)
  case atStart => exact ⟨0, Nat.zero_le _, rfl, T0.out, B3.out⟩
  case round =>
    clear T0 B3
    obtain ⟨k, hk, rfl, hT, hB⟩ := hrel
    have HT := Lib.hid hT; have HB := Lib.hid hB
    have zB := hB.size
    have zT := hT.lt
    by_cases hlt : k < l.length
    · obtain ⟨c, hck⟩ : ∃ c, l[k]? = some c := ⟨_, List.getElem?_eq_getElem hlt⟩
      have hc6 : c < 256 := HA.out.1 c (List.mem_of_getElem? hck)
      obtain ⟨b, off, cap', hv', hl1, hcell⟩ := ints_at (I2.out.later hB (Nat.le_refl _)) (u16s_at hck)
      rw [u16s_len] at hl1 hv'
      cases hv'
      have e5 : (k : Int) < (l.length : Int) := by omega
      have e6 : k + 1 ≤ c2 := by omega
      have HTT := Lib.hid (tab_take hck)
      clear hT hB hck
      obtain ⟨T, hTe⟩ : ∃ T, tabL (l.take k) = T := ⟨_, rfl⟩
      rw [hTe] at HT HTT
      have htb : wr.heap[w2.heap.size]? = some (.cells (tabV T) TTab (0, 0)) := HT.out
      have hti := tab_info' T
      have e7 : (c : Int) < 256 := by omega
      have hcc := HT.out.cell hc6
      have hcf := HT.out.frozen (u := c)
      obtain ⟨x, hx⟩ : ∃ x, W64 (T c) = x := ⟨_, rfl⟩
      rw [hx] at hcc
      have hxb : -9223372036854775808 ≤ x ∧ x ≤ 9223372036854775807 := hx ▸ w_bd _
      have HX : Hid (wrap64 (x + 1) = W64 (T c + 1)) := Lib.hid (by rw [← IntWalk.i64_left, ← hx]; exact w_add _ _)
      clear hx hTe
      go_upto_region 10 with (first
        | (refine wpList_load_row rfl TTab (.tmp 6) rfl w2.heap.size (by simp [Act.eval]) TTab (tabV T) (0, 0) _ htb Try.underlying74 rfl hti ?_; go_frame)
        | (refine wpList_store_row rfl TTab (.tmp 9) (.tmp 29) rfl wr.heap.size (tabV T) (by simp [Act.eval]) (by simp [Act.eval]) TTab (tabV fun _ => 0) (heap_alloc_last wr _) hti (by rw [tabV_size, tabV_size]) (tabV_one T) ?_; rw [World.setRow_alloc_new]; go_frame))
      have hxw : wrap64 (x + 1) = W64 (T c + 1) := HX.out
      have T5 : Hid (TabAt ((wr.setCell ⟨w2.heap.size, c, none⟩ (.int .i64 (wrap64 (x + 1)))).alloc (.cells (tabV T) TTab)) w2.heap.size (add1 T c)) := Lib.hid (by
        rw [hxw]
        have h5 := (HT.out.set hc6 (T c + 1)).alloc (.cells (tabV T) TTab)
        have e : (fun v => if v = c then T c + 1 else T v) = add1 T c := by
          funext v; unfold add1; by_cases e : v = c
          · rw [if_pos e, if_pos e, e]
          · rw [if_neg e, if_neg e]
        rw [e] at h5; exact h5)
      have W5 : Hid (TabAt ((wr.setCell ⟨w2.heap.size, c, none⟩ (.int .i64 (wrap64 (x + 1)))).alloc (.cells (tabV T) TTab)) wr.heap.size T) := Lib.hid (by
        have h5 := TabAt.new (wr.setCell ⟨w2.heap.size, c, none⟩ (.int .i64 (wrap64 (x + 1)))) T
        rwa [show (wr.setCell ⟨w2.heap.size, c, none⟩ (.int .i64 (wrap64 (x + 1)))).heap.size = wr.heap.size by simp [World.setCell]] at h5)
      have B5 : Hid (Below w2.heap.size w2 ((wr.setCell ⟨w2.heap.size, c, none⟩ (.int .i64 (wrap64 (x + 1)))).alloc (.cells (tabV T) TTab))) := Lib.hid ((HB.out.setCell (p := ⟨w2.heap.size, c, none⟩) (Nat.le_refl _) _).alloc (by simp [World.setCell]; omega) _)
      generalize ((wr.setCell ⟨w2.heap.size, c, none⟩ (.int .i64 (wrap64 (x + 1)))).alloc (.cells (tabV T) TTab)) = w5 at *
      clear hcc hcf hxw HX htb hcell
      have hwb : w5.heap[wr.heap.size]? = some (.cells (tabV T) TTab (0, 0)) := W5.out
      go_wp2_with (refine wpList_load_row rfl TTab (.tmp 9) rfl wr.heap.size (by simp [Act.eval]) TTab (tabV T) (0, 0) _ hwb Try.underlying74 rfl hti ?_; go_frame)
      clear hwb
      go_loopw [36] (fun j wx => TabIn T c w2 j wx) (fun j _ => 256 - (intOf j).toNat)
      case atStart => exact ⟨0, Nat.zero_le _, rfl, T5.out, B5.out⟩
      case round =>
        clear T5 W5 B5
        obtain ⟨m, hm, rfl, hT2, hB2⟩ := hrel
        have HT2 := Lib.hid hT2; have HB2 := Lib.hid hB2
        have zB2 := hB2.size
        have zT2 := hT2.lt
        by_cases hlt2 : m < 256
        · have hor := or_u16 m c (by omega) (by omega)
          have hoc : m ||| c < 256 := Nat.or_lt_two_pow (n := 8) hlt2 hc6
          have huw : IntKind.u16.wrap (m : Int) = (m : Int) := IntWalk.u16_in _ (by omega)
          have e8 : (m : Int) < 256 := by omega
          have e9 : ((m ||| c : Nat) : Int) < 256 := by omega
          have hix := tab_index T hlt2
          have hcc := HT2.out.cell hoc
          have hcf := HT2.out.frozen (u := m ||| c)
          have hst : subM T (add1 T c) c (m + 1) = fun u => if u = m ||| c then subM T (add1 T c) c m (m ||| c) - T m else subM T (add1 T c) c m u := by
            funext u
            show (if u = m ||| c then subM T (add1 T c) c m u - T m else subM T (add1 T c) c m u) = _
            by_cases e : u = m ||| c
            · rw [if_pos e, if_pos e, e]
            · rw [if_neg e, if_neg e]
          have HST := Lib.hid hst
          obtain ⟨x, hx⟩ : ∃ x, W64 (subM T (add1 T c) c m (m ||| c)) = x := ⟨_, rfl⟩
          obtain ⟨y, hy⟩ : ∃ y, W64 (T m) = y := ⟨_, rfl⟩
          have hxb : -9223372036854775808 ≤ x ∧ x ≤ 9223372036854775807 := hx ▸ w_bd _
          have hyb : -9223372036854775808 ≤ y ∧ y ≤ 9223372036854775807 := hy ▸ w_bd _
          have HX : Hid (wrap64 (x - y) = W64 (subM T (add1 T c) c m (m ||| c) - T m)) := Lib.hid (by rw [← IntWalk.i64_left, ← hx, ← hy]; exact w_sub' _ _)
          rw [hx] at hcc
          rw [hy] at hix
          clear hT2 hB2 hst hx hy hti
          go_wp2
          go_roundw
          case rel => exact ⟨m + 1, by omega, by go_num, by rw [HST.out, HX.out]; exact HT2.out.set hoc _, HB2.out.setCell (p := ⟨w2.heap.size, m ||| c, none⟩) (Nat.le_refl _) _⟩
          case measure => simp [intOf]; omega
        · obtain rfl : m = 256 := by omega
          have T9 : Hid (TabAt wr w2.heap.size (nextT T c)) := HT2
          clear hT2 hB2 HT2 hti
          rw [show ((256 : Nat) : Int) = 256 from rfl]
          go_wp2
          go_roundw
          case rel => exact ⟨k + 1, by omega, by go_num, by rw [HTT.out]; exact T9.out, HB2.out⟩
          case measure => simp [intOf]; omega
    · obtain rfl : k = l.length := by omega
      rw [List.take_length] at HT hT
      obtain ⟨T, hTe⟩ : ∃ T, tabL l = T := ⟨_, rfl⟩
      rw [hTe] at HT hT HCI
      have htb : wr.heap[w2.heap.size]? = some (.cells (tabV T) TTab (0, 0)) := hT
      have hti := tab_info' T
      clear hT hB hTe
      go_wp2_with (refine wpList_load_row rfl TTab (.tmp 6) rfl w2.heap.size (by simp [Act.eval]) TTab (tabV T) (0, 0) _ htb Try.underlying74 rfl hti ?_; go_frame)
      clear htb hti
      go_loopw [12, 52] (fun s i wx => SumRel T w2 s i wx) (fun _ i _ => 256 - (intOf i).toNat)
      case atStart => exact ⟨0, by omega, rfl, rfl, HB.out⟩
      case round =>
        obtain ⟨m, hm, rfl, rfl, hB2⟩ := hrel
        have HB2 := Lib.hid hB2
        have zB2 := hB2.size
        clear hB2
        by_cases hlt2 : m < 256
        · have huw : IntKind.u16.wrap (m : Int) = (m : Int) := IntWalk.u16_in _ (by omega)
          have e8 : (m : Int) < 256 := by omega
          have hix := tab_index T hlt2
          have hpc := pc_le8 hlt2
          obtain ⟨y, hy⟩ : ∃ y, W64 (T m) = y := ⟨_, rfl⟩
          have HY := Lib.hid hy
          rw [hy] at hix
          have hyb : -9223372036854775808 ≤ y ∧ y ≤ 9223372036854775807 := hy ▸ w_bd _
          obtain ⟨s, hs⟩ : ∃ s, W64 (sumTo m fun u => T u * 2 ^ (8 - pc u)) = s := ⟨_, rfl⟩
          have HS := Lib.hid hs
          have hsb : -9223372036854775808 ≤ s ∧ s ≤ 9223372036854775807 := hs ▸ w_bd _
          rw [hs]
          clear hy hs
          go_wp2_with fail
          refine (ones16_is m (by omega) _).mono ?_
          rintro e w6 ⟨rfl, n6, rfl⟩
          have HB6 := Lib.hid (below_drewN HB2.out n6)
          generalize wr.drewN n6 = w6 at *
          have hpc2 : ((pc m : Nat) : Int) ≤ 8 := by omega
          obtain ⟨q, hq⟩ : ∃ q, pc m = q := ⟨_, rfl⟩
          have HST : Hid (W64 (s + W64 (y * 2 ^ (8 - q))) = W64 (sumTo (m + 1) fun u => T u * 2 ^ (8 - pc u))) := Lib.hid (by
            rw [← HS.out, ← HY.out, w_mul, w_add', ← hq]; rfl)
          rw [hq] at hpc ⊢
          clear hq hpc2 HS HY
          rcases (by omega : q = 0 ∨ q = 1 ∨ q = 2 ∨ q = 3 ∨ q = 4 ∨ q = 5 ∨ q = 6 ∨ q = 7 ∨ q = 8) with rfl | rfl | rfl | rfl | rfl | rfl | rfl | rfl | rfl
          · have st : wrap64 (s + wrap64 (y * 256)) = W64 (sumTo (m + 1) fun u => T u * 2 ^ (8 - pc u)) := by
              have := HST.out
              rw [show (2 : Int) ^ (8 - 0) = 256 from rfl] at this
              rw [← IntWalk.i64_left, ← IntWalk.i64_left]
              exact this
            (try rw [Int.mul_one, IntWalk.wrap64_in y hyb] at st)
            have ST := Lib.hid st
            clear st
            go_wp2
            go_roundw
            case rel => exact ⟨m + 1, by omega, by go_num, by rw [← ST.out], HB6.out⟩
            case measure => simp [intOf]; omega
          · have st : wrap64 (s + wrap64 (y * 128)) = W64 (sumTo (m + 1) fun u => T u * 2 ^ (8 - pc u)) := by
              have := HST.out
              rw [show (2 : Int) ^ (8 - 1) = 128 from rfl] at this
              rw [← IntWalk.i64_left, ← IntWalk.i64_left]
              exact this
            (try rw [Int.mul_one, IntWalk.wrap64_in y hyb] at st)
            have ST := Lib.hid st
            clear st
            go_wp2
            go_roundw
            case rel => exact ⟨m + 1, by omega, by go_num, by rw [← ST.out], HB6.out⟩
            case measure => simp [intOf]; omega
          · have st : wrap64 (s + wrap64 (y * 64)) = W64 (sumTo (m + 1) fun u => T u * 2 ^ (8 - pc u)) := by
              have := HST.out
              rw [show (2 : Int) ^ (8 - 2) = 64 from rfl] at this
              rw [← IntWalk.i64_left, ← IntWalk.i64_left]
              exact this
            (try rw [Int.mul_one, IntWalk.wrap64_in y hyb] at st)
            have ST := Lib.hid st
            clear st
            go_wp2
            go_roundw
            case rel => exact ⟨m + 1, by omega, by go_num, by rw [← ST.out], HB6.out⟩
            case measure => simp [intOf]; omega
          · have st : wrap64 (s + wrap64 (y * 32)) = W64 (sumTo (m + 1) fun u => T u * 2 ^ (8 - pc u)) := by
              have := HST.out
              rw [show (2 : Int) ^ (8 - 3) = 32 from rfl] at this
              rw [← IntWalk.i64_left, ← IntWalk.i64_left]
              exact this
            (try rw [Int.mul_one, IntWalk.wrap64_in y hyb] at st)
            have ST := Lib.hid st
            clear st
            go_wp2
            go_roundw
            case rel => exact ⟨m + 1, by omega, by go_num, by rw [← ST.out], HB6.out⟩
            case measure => simp [intOf]; omega
          · have st : wrap64 (s + wrap64 (y * 16)) = W64 (sumTo (m + 1) fun u => T u * 2 ^ (8 - pc u)) := by
              have := HST.out
              rw [show (2 : Int) ^ (8 - 4) = 16 from rfl] at this
              rw [← IntWalk.i64_left, ← IntWalk.i64_left]
              exact this
            (try rw [Int.mul_one, IntWalk.wrap64_in y hyb] at st)
            have ST := Lib.hid st
            clear st
            go_wp2
            go_roundw
            case rel => exact ⟨m + 1, by omega, by go_num, by rw [← ST.out], HB6.out⟩
            case measure => simp [intOf]; omega
          · have st : wrap64 (s + wrap64 (y * 8)) = W64 (sumTo (m + 1) fun u => T u * 2 ^ (8 - pc u)) := by
              have := HST.out
              rw [show (2 : Int) ^ (8 - 5) = 8 from rfl] at this
              rw [← IntWalk.i64_left, ← IntWalk.i64_left]
              exact this
            (try rw [Int.mul_one, IntWalk.wrap64_in y hyb] at st)
            have ST := Lib.hid st
            clear st
            go_wp2
            go_roundw
            case rel => exact ⟨m + 1, by omega, by go_num, by rw [← ST.out], HB6.out⟩
            case measure => simp [intOf]; omega
          · have st : wrap64 (s + wrap64 (y * 4)) = W64 (sumTo (m + 1) fun u => T u * 2 ^ (8 - pc u)) := by
              have := HST.out
              rw [show (2 : Int) ^ (8 - 6) = 4 from rfl] at this
              rw [← IntWalk.i64_left, ← IntWalk.i64_left]
              exact this
            (try rw [Int.mul_one, IntWalk.wrap64_in y hyb] at st)
            have ST := Lib.hid st
            clear st
            go_wp2
            go_roundw
            case rel => exact ⟨m + 1, by omega, by go_num, by rw [← ST.out], HB6.out⟩
            case measure => simp [intOf]; omega
          · have st : wrap64 (s + wrap64 (y * 2)) = W64 (sumTo (m + 1) fun u => T u * 2 ^ (8 - pc u)) := by
              have := HST.out
              rw [show (2 : Int) ^ (8 - 7) = 2 from rfl] at this
              rw [← IntWalk.i64_left, ← IntWalk.i64_left]
              exact this
            (try rw [Int.mul_one, IntWalk.wrap64_in y hyb] at st)
            have ST := Lib.hid st
            clear st
            go_wp2
            go_roundw
            case rel => exact ⟨m + 1, by omega, by go_num, by rw [← ST.out], HB6.out⟩
            case measure => simp [intOf]; omega
          · have st : wrap64 (s + wrap64 (y * 1)) = W64 (sumTo (m + 1) fun u => T u * 2 ^ (8 - pc u)) := by
              have := HST.out
              rw [show (2 : Int) ^ (8 - 8) = 1 from rfl] at this
              rw [← IntWalk.i64_left, ← IntWalk.i64_left]
              exact this
            (try rw [Int.mul_one, IntWalk.wrap64_in y hyb] at st)
            have ST := Lib.hid st
            clear st
            go_wp2
            go_roundw
            case rel => exact ⟨m + 1, by omega, by go_num, by rw [← ST.out], HB6.out⟩
            case measure => simp [intOf]; omega
        · obtain rfl : m = 256 := by omega
          rw [HCI.out, HCT.out]
          have hcr := cnt_range ts
          rw [show W64 (cntT ts) = cntT ts from IntWalk.i64_in _ (by omega), show ((256 : Nat) : Int) = 256 from rfl]
          go_wp2
          go_ret2
          exact ⟨rfl, B2.out.trans (HB2.out.mono B2.out.size)⟩
set_option maxHeartbeats 4000000 in
set_option maxRecDepth 100000 in
theorem count_no (hC : CutsNo) (ts : List GateR) (v : Value) (w : World) (hv : GatesAt w v ts) (hok : ¬ TreeOk ts) (hm : ts.length ≤ 281474976710656) :
    Calls Try.prog 30 #[v] w fun e w' => (∃ c : Int, c ≠ 0 ∧ e = .returned (.tuple #[.int .i64 0, .int .i64 c])) ∧ Below w.heap.size w w' := by
  obtain ⟨a, cap, rfl⟩ := hv.len
  have HV := Lib.hid hv; have HOK := Lib.hid hok; have HC := Lib.hid hC
  clear hv hok hC
  go_enter Try.func30, Try.ntmps30
  go_wp2_with fail
  refine (HC.out ts _ _ HV.out HOK.out hm).mono ?_
  rintro e w2 ⟨⟨c, hc, rfl⟩, hb2⟩
  have hcb : (c == 0) = false := by simpa using hc
  have hc2 : (c != 0) = true := by simpa using hc
  have HCN := Lib.hid hc
  have B2 := Lib.hid hb2
  clear hc hb2
  go_wp2
  go_ret2
  exact ⟨⟨c, HCN.out, rfl⟩, B2.out⟩

end Go.Proofs.Ytiocgmioijcjhaa
