/- cuts.Across: what goes across all sets of a list. -/
import Derived.Test.YtiocgmioijcjhaaAcrossLaw
import Derived.Test.YtiocgmioijcjhaaCutsEither
namespace Go.Proofs.Ytiocgmioijcjhaa
open Go.ChangeShapes Go.WideShapes Go.ChangeAt Go.RowKit
set_option linter.unusedVariables false

def bitsK (s k : Nat) : List Nat := ((List.range k).filter fun i => s.testBit i).map fun i => 2 ^ i
theorem bitsK_8 (s : Nat) : bitsK s 8 = bitsL s := rfl
theorem bitsK_succ (s k : Nat) : bitsK s (k + 1) = bitsK s k ++ if s.testBit k then [2 ^ k] else [] := by
  unfold bitsK
  rw [List.range_succ, List.filter_append, List.map_append]
  congr 1
  cases h : s.testBit k <;> simp [h]
theorem bitsK_len (s k : Nat) : (bitsK s k).length ≤ k := by
  unfold bitsK
  rw [List.length_map]
  exact Nat.le_trans (List.length_filter_le _ _) (by simp)
theorem across_take {l : List Nat} {k s : Nat} (h : l[k]? = some s) : acrossL (l.take (k + 1)) = bothL (acrossL (l.take k)) (bitsL s) := by
  unfold acrossL
  rw [List.take_add_one, h, List.foldl_append]; rfl
def AcrRel (l : List Nat) (w : World) (out i : Value) (wr : World) : Prop :=
  ∃ k : Nat, k ≤ l.length ∧ i = .int .i64 k ∧ OwnU wr w.heap.size out (acrossL (l.take k)) ∧ Below w.heap.size w wr
def AcrIn (s : Nat) (w : World) (sg j : Value) (wr : World) : Prop :=
  ∃ m : Nat, m ≤ 8 ∧ j = .int .i64 m ∧ OwnU wr w.heap.size sg (bitsK s m) ∧ Below w.heap.size w wr
theorem high_no {s : Nat} (h : s < 256) : ((s : Int) / 256 != 0) = false := by
  rw [bne_eq_false_iff_eq]; omega
theorem high_yes {s : Nat} (h : ¬ s < 256) : ((s : Int) / 256 != 0) = true := by
  rw [bne_iff_ne]; omega
set_option maxHeartbeats 16000000 in
set_option maxRecDepth 100000 in
theorem across_yes (l : List Nat) (v : Value) (w : World) (hv : IntsAt .u16 w v (u16s l)) (hl : l.length ≤ 100) (h6 : ∀ s ∈ l, s < 256) :
    Calls Try.prog 20 #[v] w fun e w' => (∃ v', e = .returned (.tuple #[v', .int .i64 0]) ∧ OwnU w' w.heap.size v' (acrossL l)) ∧ Below w.heap.size w w' := by
  obtain ⟨i0, hi, hz0, hz1, hz2⟩ := info_parts infoU16
  obtain ⟨a, cap, hva⟩ := hv.len
  rw [u16s_len] at hva
  subst hva
  have HV := Lib.hid hv; have H6 := Lib.hid h6
  have hll : (l.length : Int) ≤ 100 := by omega
  have HE : Hid (acrossL l = acrossL (l.take l.length)) := Lib.hid (by rw [List.take_length])
  rw [HE.out]
  clear hv h6 HE
  go_enter Try.func20, Try.ntmps20
  go_wp2_with fail
  go_loopw [16] (fun i wr => (∃ k : Nat, k ≤ l.length ∧ i = .int .i64 k) ∧ Below w.heap.size w wr) (fun i _ => l.length - (intOf i).toNat)
  case atStart => exact ⟨⟨0, Nat.zero_le _, rfl⟩, Below.refl _ _⟩
  case round =>
    obtain ⟨⟨k, hk, rfl⟩, hB0⟩ := hrel
    have HB0 := Lib.hid hB0
    have z0 := hB0.size
    by_cases hlt : k < l.length
    · obtain ⟨x, hxk⟩ : ∃ x, l[k]? = some x := ⟨_, List.getElem?_eq_getElem hlt⟩
      have hx6 : x < 256 := H6.out x (List.mem_of_getElem? hxk)
      obtain ⟨b, off, cap', hv', hl1, hcell⟩ := ints_at (HV.out.later hB0 (Nat.le_refl _)) (u16s_at hxk)
      rw [u16s_len] at hl1 hv'
      cases hv'
      have e5 : (k : Int) < (l.length : Int) := by omega
      have e6 : k + 1 ≤ cap := by omega
      have e7 := high_no hx6
      clear hxk hB0
      go_wp2
      go_roundw
      case rel => exact ⟨⟨k + 1, by omega, by go_num⟩, HB0.out⟩
      case measure => simp [intOf]; omega
    · obtain rfl : k = l.length := by omega
      have O0 : Hid (OwnU (wr.alloc (.cells #[.int .u16 0] TU)) w.heap.size (.slice (some ⟨wr.heap.size, 0, none⟩) 1 1) (acrossL (l.take 0))) := Lib.hid ((own_zero wr).base z0)
      have B0 : Hid (Below w.heap.size w (wr.alloc (.cells #[.int .u16 0] TU))) := Lib.hid (hB0.alloc z0 _)
      clear hB0 HB0
      go_wp2_with fail
      generalize wr.alloc (.cells #[.int .u16 0] TU) = w0 at *
      go_loopw [6, 27] (fun out i wx => AcrRel l w out i wx) (fun _ i _ => l.length - (intOf i).toNat)
      case atStart => exact ⟨0, Nat.zero_le _, rfl, O0.out, B0.out⟩
      case round =>
        clear O0 B0
        obtain ⟨k, hk, rfl, ho, hBl⟩ := hrel
        have BL := Lib.hid hBl; have HO := Lib.hid ho
        have zB := hBl.size
        by_cases hlt : k < l.length
        · obtain ⟨s, hsk⟩ : ∃ s, l[k]? = some s := ⟨_, List.getElem?_eq_getElem hlt⟩
          have hs6 : s < 256 := H6.out s (List.mem_of_getElem? hsk)
          obtain ⟨b, off, cap', hv', hl1, hcell⟩ := ints_at (HV.out.later hBl (Nat.le_refl _)) (u16s_at hsk)
          rw [u16s_len] at hl1 hv'
          cases hv'
          have e5 : (k : Int) < (l.length : Int) := by omega
          have e6 : k + 1 ≤ cap := by omega
          have HAT := Lib.hid (across_take hsk)
          have HN := Lib.hid (across_norm (l.take k)).1
          obtain ⟨oa, oc, hoe⟩ := ho.ints.len
          subst hoe
          clear hBl ho hsk
          generalize acrossL (l.take k) = A at *
          go_wp2_with fail
          obtain ⟨W1, hW1⟩ : ∃ W1, W1 = wr := ⟨_, rfl⟩
          subst hW1
          go_loopw [9, 31] (fun sg j wx => AcrIn s W1 sg j wx) (fun _ j _ => 8 - (intOf j).toNat)
          case atStart => exact ⟨0, Nat.zero_le _, rfl, OwnU.nil _ _, Below.refl _ _⟩
          case round =>
            obtain ⟨m, hm, rfl, ho2, hB2⟩ := hrel
            have BL2 := Lib.hid hB2; have HO2 := Lib.hid ho2
            have zB2 := hB2.size
            by_cases hlt2 : m < 8
            · have HST := Lib.hid (bitsK_succ s m)
              have HLL := bitsK_len s m
              obtain ⟨L, hL⟩ : ∃ L, bitsK s m = L := ⟨_, rfl⟩
              rw [hL] at HO2 HST HLL
              have hLl : L.length ≤ 8 := by omega
              clear hB2 ho2 hL HLL hcell
              rcases (by omega : m = 0 ∨ m = 1 ∨ m = 2 ∨ m = 3 ∨ m = 4 ∨ m = 5 ∨ m = 6 ∨ m = 7) with rfl | rfl | rfl | rfl | rfl | rfl | rfl | rfl
              · have eb : (bits BinOp.and IntKind.u16 ((s : Int) / 1) 1 == 1) = s.testBit 0 := bit_is s 0 1 (by omega) rfl
                (try rw [Int.ediv_one] at eb)
                rw [show ((0 : Nat) : Int) = 0 from rfl]
                cases hr : s.testBit 0
                · rw [hr] at eb
                  have HK : Hid (bitsK s (0 + 1) = L) := Lib.hid (by rw [HST.out, hr]; simp)
                  clear hr
                  go_wp2
                  go_roundw
                  case rel => exact ⟨0 + 1, by omega, by go_num, by rw [HK.out]; exact HO2.out, BL2.out⟩
                  case measure => simp [intOf]
                · rw [hr] at eb
                  have HK : Hid (bitsK s (0 + 1) = L ++ [1]) := Lib.hid (by rw [HST.out, hr]; rfl)
                  clear hr
                  have O6 := Lib.hid (HO2.out.later ((Below.refl wr.heap.size wr).alloc (Nat.le_refl _) (.cells #[.int .u16 1] TU)) (Nat.le_refl _))
                  have hsz1 : W1.heap.size ≤ (wr.alloc (.cells #[.int .u16 1] TU)).heap.size := by simp; omega
                  have hUl := u16s_len L
                  go_wp2_with (at_builtin; refine wpList_append_own _ rfl _ _ 37 rfl W1.heap.size TU i0 (.int .u16 0) 1 2 Try.underlying37 hi hz0 hz1 hz2 rfl (by decide) _ _ _ rfl O6.out ⟨wr.heap.size, 0, none⟩ 1 1 [.int .u16 1] rfl rfl (by intro j u h; cases j <;> simp at h; subst h; first | (simp [Addr.add]; done) | (simp [Addr.add]; go_simp)) (by simp [Value.oneCell']) (by unfold maxLen; omega) (by omega) hsz1 ?_; intro v' w6 hown' hgrow _)
                  have HP : Hid (OwnU w6 W1.heap.size v' (L ++ [1])) := OwnU.more hown'
                  have BG : Below W1.heap.size wr w6 := ((Below.refl _ _).alloc zB2 _).grown hgrow hsz1 (fun j e => (O6.out.lt j e).1)
                  have HBG := Lib.hid (BL2.out.trans BG)
                  clear hown' hgrow BG hUl
                  go_roundw
                  case rel => exact ⟨0 + 1, by omega, by go_num, by rw [HK.out]; exact HP.out, HBG.out⟩
                  case measure => simp [intOf]
              · have eb : (bits BinOp.and IntKind.u16 ((s : Int) / 2) 1 == 1) = s.testBit 1 := bit_is s 1 2 (by omega) rfl
                (try rw [Int.ediv_one] at eb)
                rw [show ((1 : Nat) : Int) = 1 from rfl]
                cases hr : s.testBit 1
                · rw [hr] at eb
                  have HK : Hid (bitsK s (1 + 1) = L) := Lib.hid (by rw [HST.out, hr]; simp)
                  clear hr
                  go_wp2
                  go_roundw
                  case rel => exact ⟨1 + 1, by omega, by go_num, by rw [HK.out]; exact HO2.out, BL2.out⟩
                  case measure => simp [intOf]
                · rw [hr] at eb
                  have HK : Hid (bitsK s (1 + 1) = L ++ [2]) := Lib.hid (by rw [HST.out, hr]; rfl)
                  clear hr
                  have O6 := Lib.hid (HO2.out.later ((Below.refl wr.heap.size wr).alloc (Nat.le_refl _) (.cells #[.int .u16 2] TU)) (Nat.le_refl _))
                  have hsz1 : W1.heap.size ≤ (wr.alloc (.cells #[.int .u16 2] TU)).heap.size := by simp; omega
                  have hUl := u16s_len L
                  go_wp2_with (at_builtin; refine wpList_append_own _ rfl _ _ 37 rfl W1.heap.size TU i0 (.int .u16 0) 1 2 Try.underlying37 hi hz0 hz1 hz2 rfl (by decide) _ _ _ rfl O6.out ⟨wr.heap.size, 0, none⟩ 1 1 [.int .u16 2] rfl rfl (by intro j u h; cases j <;> simp at h; subst h; first | (simp [Addr.add]; done) | (simp [Addr.add]; go_simp)) (by simp [Value.oneCell']) (by unfold maxLen; omega) (by omega) hsz1 ?_; intro v' w6 hown' hgrow _)
                  have HP : Hid (OwnU w6 W1.heap.size v' (L ++ [2])) := OwnU.more hown'
                  have BG : Below W1.heap.size wr w6 := ((Below.refl _ _).alloc zB2 _).grown hgrow hsz1 (fun j e => (O6.out.lt j e).1)
                  have HBG := Lib.hid (BL2.out.trans BG)
                  clear hown' hgrow BG hUl
                  go_roundw
                  case rel => exact ⟨1 + 1, by omega, by go_num, by rw [HK.out]; exact HP.out, HBG.out⟩
                  case measure => simp [intOf]
              · have eb : (bits BinOp.and IntKind.u16 ((s : Int) / 4) 1 == 1) = s.testBit 2 := bit_is s 2 4 (by omega) rfl
                (try rw [Int.ediv_one] at eb)
                rw [show ((2 : Nat) : Int) = 2 from rfl]
                cases hr : s.testBit 2
                · rw [hr] at eb
                  have HK : Hid (bitsK s (2 + 1) = L) := Lib.hid (by rw [HST.out, hr]; simp)
                  clear hr
                  go_wp2
                  go_roundw
                  case rel => exact ⟨2 + 1, by omega, by go_num, by rw [HK.out]; exact HO2.out, BL2.out⟩
                  case measure => simp [intOf]
                · rw [hr] at eb
                  have HK : Hid (bitsK s (2 + 1) = L ++ [4]) := Lib.hid (by rw [HST.out, hr]; rfl)
                  clear hr
                  have O6 := Lib.hid (HO2.out.later ((Below.refl wr.heap.size wr).alloc (Nat.le_refl _) (.cells #[.int .u16 4] TU)) (Nat.le_refl _))
                  have hsz1 : W1.heap.size ≤ (wr.alloc (.cells #[.int .u16 4] TU)).heap.size := by simp; omega
                  have hUl := u16s_len L
                  go_wp2_with (at_builtin; refine wpList_append_own _ rfl _ _ 37 rfl W1.heap.size TU i0 (.int .u16 0) 1 2 Try.underlying37 hi hz0 hz1 hz2 rfl (by decide) _ _ _ rfl O6.out ⟨wr.heap.size, 0, none⟩ 1 1 [.int .u16 4] rfl rfl (by intro j u h; cases j <;> simp at h; subst h; first | (simp [Addr.add]; done) | (simp [Addr.add]; go_simp)) (by simp [Value.oneCell']) (by unfold maxLen; omega) (by omega) hsz1 ?_; intro v' w6 hown' hgrow _)
                  have HP : Hid (OwnU w6 W1.heap.size v' (L ++ [4])) := OwnU.more hown'
                  have BG : Below W1.heap.size wr w6 := ((Below.refl _ _).alloc zB2 _).grown hgrow hsz1 (fun j e => (O6.out.lt j e).1)
                  have HBG := Lib.hid (BL2.out.trans BG)
                  clear hown' hgrow BG hUl
                  go_roundw
                  case rel => exact ⟨2 + 1, by omega, by go_num, by rw [HK.out]; exact HP.out, HBG.out⟩
                  case measure => simp [intOf]
              · have eb : (bits BinOp.and IntKind.u16 ((s : Int) / 8) 1 == 1) = s.testBit 3 := bit_is s 3 8 (by omega) rfl
                (try rw [Int.ediv_one] at eb)
                rw [show ((3 : Nat) : Int) = 3 from rfl]
                cases hr : s.testBit 3
                · rw [hr] at eb
                  have HK : Hid (bitsK s (3 + 1) = L) := Lib.hid (by rw [HST.out, hr]; simp)
                  clear hr
                  go_wp2
                  go_roundw
                  case rel => exact ⟨3 + 1, by omega, by go_num, by rw [HK.out]; exact HO2.out, BL2.out⟩
                  case measure => simp [intOf]
                · rw [hr] at eb
                  have HK : Hid (bitsK s (3 + 1) = L ++ [8]) := Lib.hid (by rw [HST.out, hr]; rfl)
                  clear hr
                  have O6 := Lib.hid (HO2.out.later ((Below.refl wr.heap.size wr).alloc (Nat.le_refl _) (.cells #[.int .u16 8] TU)) (Nat.le_refl _))
                  have hsz1 : W1.heap.size ≤ (wr.alloc (.cells #[.int .u16 8] TU)).heap.size := by simp; omega
                  have hUl := u16s_len L
                  go_wp2_with (at_builtin; refine wpList_append_own _ rfl _ _ 37 rfl W1.heap.size TU i0 (.int .u16 0) 1 2 Try.underlying37 hi hz0 hz1 hz2 rfl (by decide) _ _ _ rfl O6.out ⟨wr.heap.size, 0, none⟩ 1 1 [.int .u16 8] rfl rfl (by intro j u h; cases j <;> simp at h; subst h; first | (simp [Addr.add]; done) | (simp [Addr.add]; go_simp)) (by simp [Value.oneCell']) (by unfold maxLen; omega) (by omega) hsz1 ?_; intro v' w6 hown' hgrow _)
                  have HP : Hid (OwnU w6 W1.heap.size v' (L ++ [8])) := OwnU.more hown'
                  have BG : Below W1.heap.size wr w6 := ((Below.refl _ _).alloc zB2 _).grown hgrow hsz1 (fun j e => (O6.out.lt j e).1)
                  have HBG := Lib.hid (BL2.out.trans BG)
                  clear hown' hgrow BG hUl
                  go_roundw
                  case rel => exact ⟨3 + 1, by omega, by go_num, by rw [HK.out]; exact HP.out, HBG.out⟩
                  case measure => simp [intOf]
              · have eb : (bits BinOp.and IntKind.u16 ((s : Int) / 16) 1 == 1) = s.testBit 4 := bit_is s 4 16 (by omega) rfl
                (try rw [Int.ediv_one] at eb)
                rw [show ((4 : Nat) : Int) = 4 from rfl]
                cases hr : s.testBit 4
                · rw [hr] at eb
                  have HK : Hid (bitsK s (4 + 1) = L) := Lib.hid (by rw [HST.out, hr]; simp)
                  clear hr
                  go_wp2
                  go_roundw
                  case rel => exact ⟨4 + 1, by omega, by go_num, by rw [HK.out]; exact HO2.out, BL2.out⟩
                  case measure => simp [intOf]
                · rw [hr] at eb
                  have HK : Hid (bitsK s (4 + 1) = L ++ [16]) := Lib.hid (by rw [HST.out, hr]; rfl)
                  clear hr
                  have O6 := Lib.hid (HO2.out.later ((Below.refl wr.heap.size wr).alloc (Nat.le_refl _) (.cells #[.int .u16 16] TU)) (Nat.le_refl _))
                  have hsz1 : W1.heap.size ≤ (wr.alloc (.cells #[.int .u16 16] TU)).heap.size := by simp; omega
                  have hUl := u16s_len L
                  go_wp2_with (at_builtin; refine wpList_append_own _ rfl _ _ 37 rfl W1.heap.size TU i0 (.int .u16 0) 1 2 Try.underlying37 hi hz0 hz1 hz2 rfl (by decide) _ _ _ rfl O6.out ⟨wr.heap.size, 0, none⟩ 1 1 [.int .u16 16] rfl rfl (by intro j u h; cases j <;> simp at h; subst h; first | (simp [Addr.add]; done) | (simp [Addr.add]; go_simp)) (by simp [Value.oneCell']) (by unfold maxLen; omega) (by omega) hsz1 ?_; intro v' w6 hown' hgrow _)
                  have HP : Hid (OwnU w6 W1.heap.size v' (L ++ [16])) := OwnU.more hown'
                  have BG : Below W1.heap.size wr w6 := ((Below.refl _ _).alloc zB2 _).grown hgrow hsz1 (fun j e => (O6.out.lt j e).1)
                  have HBG := Lib.hid (BL2.out.trans BG)
                  clear hown' hgrow BG hUl
                  go_roundw
                  case rel => exact ⟨4 + 1, by omega, by go_num, by rw [HK.out]; exact HP.out, HBG.out⟩
                  case measure => simp [intOf]
              · have eb : (bits BinOp.and IntKind.u16 ((s : Int) / 32) 1 == 1) = s.testBit 5 := bit_is s 5 32 (by omega) rfl
                (try rw [Int.ediv_one] at eb)
                rw [show ((5 : Nat) : Int) = 5 from rfl]
                cases hr : s.testBit 5
                · rw [hr] at eb
                  have HK : Hid (bitsK s (5 + 1) = L) := Lib.hid (by rw [HST.out, hr]; simp)
                  clear hr
                  go_wp2
                  go_roundw
                  case rel => exact ⟨5 + 1, by omega, by go_num, by rw [HK.out]; exact HO2.out, BL2.out⟩
                  case measure => simp [intOf]
                · rw [hr] at eb
                  have HK : Hid (bitsK s (5 + 1) = L ++ [32]) := Lib.hid (by rw [HST.out, hr]; rfl)
                  clear hr
                  have O6 := Lib.hid (HO2.out.later ((Below.refl wr.heap.size wr).alloc (Nat.le_refl _) (.cells #[.int .u16 32] TU)) (Nat.le_refl _))
                  have hsz1 : W1.heap.size ≤ (wr.alloc (.cells #[.int .u16 32] TU)).heap.size := by simp; omega
                  have hUl := u16s_len L
                  go_wp2_with (at_builtin; refine wpList_append_own _ rfl _ _ 37 rfl W1.heap.size TU i0 (.int .u16 0) 1 2 Try.underlying37 hi hz0 hz1 hz2 rfl (by decide) _ _ _ rfl O6.out ⟨wr.heap.size, 0, none⟩ 1 1 [.int .u16 32] rfl rfl (by intro j u h; cases j <;> simp at h; subst h; first | (simp [Addr.add]; done) | (simp [Addr.add]; go_simp)) (by simp [Value.oneCell']) (by unfold maxLen; omega) (by omega) hsz1 ?_; intro v' w6 hown' hgrow _)
                  have HP : Hid (OwnU w6 W1.heap.size v' (L ++ [32])) := OwnU.more hown'
                  have BG : Below W1.heap.size wr w6 := ((Below.refl _ _).alloc zB2 _).grown hgrow hsz1 (fun j e => (O6.out.lt j e).1)
                  have HBG := Lib.hid (BL2.out.trans BG)
                  clear hown' hgrow BG hUl
                  go_roundw
                  case rel => exact ⟨5 + 1, by omega, by go_num, by rw [HK.out]; exact HP.out, HBG.out⟩
                  case measure => simp [intOf]
              · have eb : (bits BinOp.and IntKind.u16 ((s : Int) / 64) 1 == 1) = s.testBit 6 := bit_is s 6 64 (by omega) rfl
                (try rw [Int.ediv_one] at eb)
                rw [show ((6 : Nat) : Int) = 6 from rfl]
                cases hr : s.testBit 6
                · rw [hr] at eb
                  have HK : Hid (bitsK s (6 + 1) = L) := Lib.hid (by rw [HST.out, hr]; simp)
                  clear hr
                  go_wp2
                  go_roundw
                  case rel => exact ⟨6 + 1, by omega, by go_num, by rw [HK.out]; exact HO2.out, BL2.out⟩
                  case measure => simp [intOf]
                · rw [hr] at eb
                  have HK : Hid (bitsK s (6 + 1) = L ++ [64]) := Lib.hid (by rw [HST.out, hr]; rfl)
                  clear hr
                  have O6 := Lib.hid (HO2.out.later ((Below.refl wr.heap.size wr).alloc (Nat.le_refl _) (.cells #[.int .u16 64] TU)) (Nat.le_refl _))
                  have hsz1 : W1.heap.size ≤ (wr.alloc (.cells #[.int .u16 64] TU)).heap.size := by simp; omega
                  have hUl := u16s_len L
                  go_wp2_with (at_builtin; refine wpList_append_own _ rfl _ _ 37 rfl W1.heap.size TU i0 (.int .u16 0) 1 2 Try.underlying37 hi hz0 hz1 hz2 rfl (by decide) _ _ _ rfl O6.out ⟨wr.heap.size, 0, none⟩ 1 1 [.int .u16 64] rfl rfl (by intro j u h; cases j <;> simp at h; subst h; first | (simp [Addr.add]; done) | (simp [Addr.add]; go_simp)) (by simp [Value.oneCell']) (by unfold maxLen; omega) (by omega) hsz1 ?_; intro v' w6 hown' hgrow _)
                  have HP : Hid (OwnU w6 W1.heap.size v' (L ++ [64])) := OwnU.more hown'
                  have BG : Below W1.heap.size wr w6 := ((Below.refl _ _).alloc zB2 _).grown hgrow hsz1 (fun j e => (O6.out.lt j e).1)
                  have HBG := Lib.hid (BL2.out.trans BG)
                  clear hown' hgrow BG hUl
                  go_roundw
                  case rel => exact ⟨6 + 1, by omega, by go_num, by rw [HK.out]; exact HP.out, HBG.out⟩
                  case measure => simp [intOf]
              · have eb : (bits BinOp.and IntKind.u16 ((s : Int) / 128) 1 == 1) = s.testBit 7 := bit_is s 7 128 (by omega) rfl
                (try rw [Int.ediv_one] at eb)
                rw [show ((7 : Nat) : Int) = 7 from rfl]
                cases hr : s.testBit 7
                · rw [hr] at eb
                  have HK : Hid (bitsK s (7 + 1) = L) := Lib.hid (by rw [HST.out, hr]; simp)
                  clear hr
                  go_wp2
                  go_roundw
                  case rel => exact ⟨7 + 1, by omega, by go_num, by rw [HK.out]; exact HO2.out, BL2.out⟩
                  case measure => simp [intOf]
                · rw [hr] at eb
                  have HK : Hid (bitsK s (7 + 1) = L ++ [128]) := Lib.hid (by rw [HST.out, hr]; rfl)
                  clear hr
                  have O6 := Lib.hid (HO2.out.later ((Below.refl wr.heap.size wr).alloc (Nat.le_refl _) (.cells #[.int .u16 128] TU)) (Nat.le_refl _))
                  have hsz1 : W1.heap.size ≤ (wr.alloc (.cells #[.int .u16 128] TU)).heap.size := by simp; omega
                  have hUl := u16s_len L
                  go_wp2_with (at_builtin; refine wpList_append_own _ rfl _ _ 37 rfl W1.heap.size TU i0 (.int .u16 0) 1 2 Try.underlying37 hi hz0 hz1 hz2 rfl (by decide) _ _ _ rfl O6.out ⟨wr.heap.size, 0, none⟩ 1 1 [.int .u16 128] rfl rfl (by intro j u h; cases j <;> simp at h; subst h; first | (simp [Addr.add]; done) | (simp [Addr.add]; go_simp)) (by simp [Value.oneCell']) (by unfold maxLen; omega) (by omega) hsz1 ?_; intro v' w6 hown' hgrow _)
                  have HP : Hid (OwnU w6 W1.heap.size v' (L ++ [128])) := OwnU.more hown'
                  have BG : Below W1.heap.size wr w6 := ((Below.refl _ _).alloc zB2 _).grown hgrow hsz1 (fun j e => (O6.out.lt j e).1)
                  have HBG := Lib.hid (BL2.out.trans BG)
                  clear hown' hgrow BG hUl
                  go_roundw
                  case rel => exact ⟨7 + 1, by omega, by go_num, by rw [HK.out]; exact HP.out, HBG.out⟩
                  case measure => simp [intOf]
            · obtain rfl : m = 8 := by omega
              rw [bitsK_8] at ho2
              rw [show ((8 : Nat) : Int) = 8 from rfl]
              obtain ⟨ga, gc, hge⟩ := ho2.ints.len
              subst hge
              have HG := Lib.hid ho2
              have HOI := Lib.hid (HO.out.ints.later BL2.out (Nat.le_refl _))
              clear hB2 ho2 HO2 hcell
              go_wp2_with fail
              refine (both_is A (bitsL s) _ _ _ HN.out.1 (bits_lt s) (anti_len HN.out) (Nat.le_trans (bits_len s) (by decide)) HOI.out HG.out.ints).mono ?_
              rintro e w5 ⟨⟨v5, rfl, ho5⟩, hb5⟩
              have O5 := Lib.hid (ho5.base (Nat.le_trans zB zB2))
              have B5 := Lib.hid (BL.out.trans ((BL2.out.trans (hb5.mono zB2)).mono zB))
              clear ho5 hb5
              go_wp2
              go_roundw
              case rel => exact ⟨k + 1, by omega, by go_num, by rw [HAT.out]; exact O5.out, B5.out⟩
              case measure => simp [intOf]; omega
        · obtain rfl : k = l.length := by omega
          clear hBl ho
          go_wp2
          go_ret2
          exact ⟨⟨_, rfl, HO.out⟩, BL.out⟩
set_option maxHeartbeats 4000000 in
set_option maxRecDepth 100000 in
theorem across_no (l : List Nat) (v : Value) (w : World) (hv : IntsAt .u16 w v (u16s l)) (hl : l.length ≤ 281474976710656) (h5 : ∀ s ∈ l, s < 65536) (h6 : ¬ (l.length ≤ 100 ∧ ∀ s ∈ l, s < 256)) :
    Calls Try.prog 20 #[v] w fun e w' => (∃ c : Int, c ≠ 0 ∧ e = .returned (.tuple #[.slice none 0 0, .int .i64 c])) ∧ Below w.heap.size w w' := by
  obtain ⟨a, cap, hva⟩ := hv.len
  rw [u16s_len] at hva
  subst hva
  have HV := Lib.hid hv; have H5 := Lib.hid h5
  by_cases hl1 : l.length ≤ 100
  · have h7 : ¬ ∀ s ∈ l, s < 256 := fun h => h6 ⟨hl1, h⟩
    have H7 := Lib.hid h7
    have hll : (l.length : Int) ≤ 100 := by omega
    clear hv h5 h6 h7
    go_enter Try.func20, Try.ntmps20
    go_wp2_with fail
    go_loopw [16] (fun i wr => (∃ k : Nat, k ≤ l.length ∧ i = .int .i64 k ∧ (∀ s ∈ l.take k, s < 256)) ∧ Below w.heap.size w wr) (fun i _ => l.length - (intOf i).toNat)
    case atStart => exact ⟨⟨0, Nat.zero_le _, rfl, by simp⟩, Below.refl _ _⟩
    case round =>
      obtain ⟨⟨k, hk, rfl, h8⟩, hB0⟩ := hrel
      have H8 := Lib.hid h8; have HB0 := Lib.hid hB0
      clear h8
      by_cases hlt : k < l.length
      · obtain ⟨x, hxk⟩ : ∃ x, l[k]? = some x := ⟨_, List.getElem?_eq_getElem hlt⟩
        obtain ⟨b, off, cap', hv', hl1, hcell⟩ := ints_at (HV.out.later hB0 (Nat.le_refl _)) (u16s_at hxk)
        rw [u16s_len] at hl1 hv'
        cases hv'
        have e5 : (k : Int) < (l.length : Int) := by omega
        have e6 : k + 1 ≤ cap := by omega
        have XK := Lib.hid hxk
        clear hxk hB0
        by_cases hx6 : x < 256
        · have e7 := high_no hx6
          go_wp2
          go_roundw
          case rel => exact ⟨⟨k + 1, by omega, by go_num, by
            rw [List.take_add_one, XK.out]
            intro s hs
            rcases List.mem_append.1 hs with hs | hs
            · exact H8.out s hs
            · obtain rfl : s = x := by simpa using hs
              exact hx6⟩, HB0.out⟩
          case measure => simp [intOf]; omega
        · have e7 := high_yes hx6
          go_wp2
          go_ret2
          exact ⟨⟨1, by decide, rfl⟩, HB0.out⟩
      · obtain rfl : k = l.length := by omega
        exact absurd (by have := H8.out; rwa [List.take_length] at this) H7.out
  · have hll : (l.length : Int) > 100 := by omega
    clear hv h5 h6
    go_enter Try.func20, Try.ntmps20
    go_wp2
    go_ret2
    exact ⟨⟨2, by decide, rfl⟩, Below.refl _ _⟩

end Go.Proofs.Ytiocgmioijcjhaa
