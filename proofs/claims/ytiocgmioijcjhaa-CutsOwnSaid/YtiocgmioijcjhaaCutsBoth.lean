/- cuts.both: each set of the one joined with each of the other, the least of these. -/
import Derived.Test.YtiocgmioijcjhaaCutsSort
namespace Go.Proofs.Ytiocgmioijcjhaa
open Go.ChangeShapes Go.WideShapes Go.ChangeAt Go.RowKit
set_option linter.unusedVariables false

def joinL (A B : List Nat) : List Nat := A.flatMap fun x => B.map fun y => x ||| y
theorem joinL_len (A B : List Nat) : (joinL A B).length = A.length * B.length := by
  induction A with
  | nil => simp [joinL]
  | cons x A ih =>
    have : joinL (x :: A) B = (B.map fun y => x ||| y) ++ joinL A B := rfl
    rw [this, List.length_append, ih, List.length_map, List.length_cons, Nat.succ_mul]; omega
theorem joinL_take {A : List Nat} {k x : Nat} (B : List Nat) (h : A[k]? = some x) : joinL (A.take (k + 1)) B = joinL (A.take k) B ++ B.map fun y => x ||| y := by
  unfold joinL
  rw [List.take_add_one, h]
  simp
theorem joinL_lt {A B : List Nat} (ha : ∀ x ∈ A, x < 256) (hb : ∀ x ∈ B, x < 256) : ∀ c ∈ joinL A B, c < 256 := fun c hc => by
  obtain ⟨x, hx, hc⟩ := List.mem_flatMap.1 hc
  obtain ⟨y, hy, rfl⟩ := List.mem_map.1 hc
  exact Nat.or_lt_two_pow (n := 8) (ha x hx) (hb y hy)
def BothRel (A B : List Nat) (w : World) (out i : Value) (wr : World) : Prop :=
  ∃ k : Nat, k ≤ A.length ∧ i = .int .i64 k ∧ OwnU wr w.heap.size out (joinL (A.take k) B) ∧ Below w.heap.size w wr
def BothIn (P B : List Nat) (x : Nat) (w : World) (out j : Value) (wr : World) : Prop :=
  ∃ m : Nat, m ≤ B.length ∧ j = .int .i64 m ∧ OwnU wr w.heap.size out (P ++ (B.take m).map fun y => x ||| y) ∧ Below w.heap.size w wr
set_option maxHeartbeats 8000000 in
set_option maxRecDepth 100000 in
theorem both_is (A B : List Nat) (va vb : Value) (w : World) (hA : ∀ x ∈ A, x < 256) (hB : ∀ x ∈ B, x < 256) (lA : A.length ≤ 256) (lB : B.length ≤ 256) (ha : IntsAt .u16 w va (u16s A)) (hb : IntsAt .u16 w vb (u16s B)) :
    Calls Try.prog 40 #[va, vb] w fun e w' => (∃ v', e = .returned v' ∧ OwnU w' w.heap.size v' (bothL A B)) ∧ Below w.heap.size w w' := by
  obtain ⟨i0, hi, hz0, hz1, hz2⟩ := info_parts infoU16
  obtain ⟨pa, ca, hva⟩ := ha.len
  obtain ⟨pb, cb, hvb⟩ := hb.len
  rw [u16s_len] at hva hvb
  subst hva
  subst hvb
  have VA := Lib.hid ha; have VB := Lib.hid hb; have HA := Lib.hid hA; have HB := Lib.hid hB
  have hbl : bothL A B = leastL (joinL (A.take A.length) B) := by rw [List.take_length]; rfl
  rw [hbl]
  clear ha hb hA hB hbl
  go_enter Try.func40, Try.ntmps40
  go_wp2_with fail
  go_loopw [5, 12] (fun out i wr => BothRel A B w out i wr) (fun _ i _ => A.length - (intOf i).toNat)
  case atStart => exact ⟨0, Nat.zero_le _, rfl, OwnU.nil _ _, Below.refl _ _⟩
  case round =>
    obtain ⟨k, hk, rfl, ho, hBl⟩ := hrel
    have BL := Lib.hid hBl; have HO := Lib.hid ho
    have zB := hBl.size
    have hjl : (joinL (A.take k) B).length ≤ 65536 := by
      rw [joinL_len]
      exact Nat.le_trans (Nat.mul_le_mul (by rw [List.length_take]; omega : _ ≤ 256) lB) (by decide)
    have HJL := Lib.hid hjl
    by_cases hlt : k < A.length
    · obtain ⟨x, hxk⟩ : ∃ x, A[k]? = some x := ⟨_, List.getElem?_eq_getElem hlt⟩
      have hx6 : x < 256 := HA.out x (List.mem_of_getElem? hxk)
      obtain ⟨b, off, cap', hv', hl1, hcell⟩ := ints_at (VA.out.later hBl (Nat.le_refl _)) (u16s_at hxk)
      rw [u16s_len] at hl1 hv'
      cases hv'
      have e5 : (k : Int) < (A.length : Int) := by omega
      have e6 : k + 1 ≤ ca := by omega
      have JT := Lib.hid (joinL_take B hxk)
      clear hBl ho hxk hjl
      generalize joinL (A.take k) B = P at *
      go_wp2_with fail
      go_loopw [5, 18] (fun out j wr => BothIn P B x w out j wr) (fun _ j _ => B.length - (intOf j).toNat)
      case atStart => exact ⟨0, Nat.zero_le _, rfl, by simpa using HO.out, BL.out⟩
      case round =>
        obtain ⟨m, hm, rfl, ho2, hB2⟩ := hrel
        have BL2 := Lib.hid hB2; have HO2 := Lib.hid ho2
        have zB2 := hB2.size
        by_cases hlt2 : m < B.length
        · obtain ⟨y, hyk⟩ : ∃ y, B[m]? = some y := ⟨_, List.getElem?_eq_getElem hlt2⟩
          have hy6 : y < 256 := HB.out y (List.mem_of_getElem? hyk)
          obtain ⟨b', off', cap', hv', hl1', hcell'⟩ := ints_at (VB.out.later hB2 (Nat.le_refl _)) (u16s_at hyk)
          rw [u16s_len] at hl1' hv'
          cases hv'
          have e7 : (m : Int) < (B.length : Int) := by omega
          have e8 : m + 1 ≤ cb := by omega
          have hor := or_u16 x y (by omega) (by omega)
          have hst : (B.take (m + 1)).map (fun y => x ||| y) = (B.take m).map (fun y => x ||| y) ++ [x ||| y] := by
            rw [List.take_add_one, hyk]; simp
          have HST := Lib.hid hst
          obtain ⟨L, hL⟩ : ∃ L, P ++ (B.take m).map (fun y => x ||| y) = L := ⟨_, rfl⟩
          have hLl : L.length ≤ 70000 := by
            have := HJL.out
            rw [← hL, List.length_append, List.length_map, List.length_take]; omega
          rw [hL] at HO2
          have O6 := Lib.hid (HO2.out.later ((Below.refl wr.heap.size wr).alloc (Nat.le_refl _) (.cells #[.int .u16 ((x ||| y : Nat) : Int)] TU)) (Nat.le_refl _))
          have hsz1 : w.heap.size ≤ (wr.alloc (.cells #[.int .u16 ((x ||| y : Nat) : Int)] TU)).heap.size := by simp; omega
          have hUl := u16s_len L
          have HLE : Hid (P ++ (B.take (m + 1)).map (fun y => x ||| y) = L ++ [x ||| y]) := Lib.hid (by rw [hst, ← List.append_assoc, hL])
          clear hB2 ho2 hyk hst hL
          go_wp2_with (at_builtin; refine wpList_append_own _ rfl _ _ 37 rfl w.heap.size TU i0 (.int .u16 0) 1 2 Try.underlying37 hi hz0 hz1 hz2 rfl (by decide) _ _ _ rfl O6.out ⟨wr.heap.size, 0, none⟩ 1 1 [.int .u16 ((x ||| y : Nat) : Int)] rfl rfl (by intro j u h; cases j <;> simp at h; subst h; first | (simp [Addr.add]; done) | (simp [Addr.add]; go_simp)) (by simp [Value.oneCell']) (by unfold maxLen; omega) (by omega) hsz1 ?_; intro v' w6 hown' hgrow _)
          have HP : Hid (OwnU w6 w.heap.size v' (L ++ [x ||| y])) := OwnU.more hown'
          have BG : Below w.heap.size wr w6 := ((Below.refl _ _).alloc zB2 _).grown hgrow hsz1 (fun j e => (O6.out.lt j e).1)
          have HBG := Lib.hid (BL2.out.trans BG)
          clear hown' hgrow BG hUl
          go_roundw
          case rel => exact ⟨m + 1, by omega, by go_num, by rw [HLE.out]; exact HP.out, HBG.out⟩
          case measure => simp [intOf]; omega
        · obtain rfl : m = B.length := by omega
          have HF : Hid (OwnU wr w.heap.size _ (joinL (A.take (k + 1)) B)) := Lib.hid (by rw [JT.out]; rw [List.take_length] at ho2; exact ho2)
          clear hB2 ho2
          go_wp2
          go_roundw
          case rel => exact ⟨k + 1, by omega, by go_num, HF.out, BL2.out⟩
          case measure => simp [intOf]; omega
    · obtain rfl : k = A.length := by omega
      clear hBl ho
      have hx6 : ∀ c ∈ joinL (A.take A.length) B, c < 65536 := fun c hc => Nat.lt_trans (joinL_lt (fun x hx => HA.out x (List.mem_of_mem_take hx)) HB.out c hc) (by decide)
      have HX6 := Lib.hid hx6
      clear hx6
      obtain ⟨P, hP⟩ : ∃ P, joinL (A.take A.length) B = P := ⟨_, rfl⟩
      rw [hP] at HX6 HO hjl
      have HP := Lib.hid hP
      clear hP HJL
      go_wp2_with fail
      refine (least_is sort_is P _ _ w.heap.size HX6.out HO.out zB (by omega)).mono ?_
      rintro e w5 ⟨⟨v', rfl, ho5⟩, hb5⟩
      go_wp2
      go_ret
      exact ⟨⟨_, rfl, by rw [HP.out]; exact ho5.base zB⟩, BL.out.trans hb5⟩

end Go.Proofs.Ytiocgmioijcjhaa
