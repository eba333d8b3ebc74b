/- What the functions of package past compute. -/
import Derived.Test.YtglagndpholejaaPastCheck
import Derived.Lib.Hide
import Derived.Laws.MakeOwn
import Derived.OwnWalk
import Derived.BigQuiet
import Derived.Deep.QuietTactic
import Derived.StillTailTactics
namespace Go.Proofs.Ytglagndpholejaa
open Go.ChangeShapes Go.WideShapes Go.ChangeAt Go.RowKit
set_option linter.unusedVariables false

def pBit (s a : Int) : Bool := bits BinOp.and IntKind.u8 (s / 2 ^ a.toNat) 1 == 1
/-- a sentence's value, by those of the sentences ahead of it, by its own one before, and by all of those before -/
def pval (x : PastR) (out was : List Bool) (first before : Bool) (s : Int) : Bool :=
  if x.1 = 1 then pBit s x.2.1 else if x.1 = 2 then !(out.getD x.2.1.toNat false) else if x.1 = 3 then !first && was.getD x.2.1.toNat false
  else if x.1 = 4 then out.getD x.2.1.toNat false || before else if x.1 = 5 then out.getD x.2.1.toNat false && (first || before)
  else if x.1 = 6 then out.getD x.2.1.toNat false && out.getD x.2.2.toNat false else if x.1 = 7 then out.getD x.2.1.toNat false || out.getD x.2.2.toNat false
  else out.getD x.2.2.toNat false || (out.getD x.2.1.toNat false && before)
def pTo (xs : List PastR) (was : List Bool) (s : Int) : Nat → List Bool
  | 0 => []
  | k + 1 => pTo xs was s k ++ [pval (xs.getD k (1, 0, 0)) (pTo xs was s k) was (was.length == 0) (was.getD k false) s]
theorem pTo_len (xs : List PastR) (was : List Bool) (s : Int) (k : Nat) : (pTo xs was s k).length = k := by
  induction k with
  | zero => rfl
  | succ k ih => simp [pTo, ih]
theorem pTo_step {xs : List PastR} {was : List Bool} {s : Int} {k : Nat} {x : PastR} {f b : Bool} (hx : xs[k]? = some x) (hf : (was.length == 0) = f) (hb : was.getD k false = b) :
    pTo xs was s (k + 1) = pTo xs was s k ++ [pval x (pTo xs was s k) was f b s] := by
  simp only [pTo, hf, hb, List.getD_eq_getElem?_getD, hx, Option.getD_some]
def PSRel (xs : List PastR) (was : List Bool) (s : Int) (T : TypeId) (w : World) (i : Value) (wr : World) : Prop :=
  ∃ k : Nat, k ≤ xs.length ∧ i = .int .i64 k ∧ BoolBlk wr w.heap.size T xs.length (pTo xs was s k) ∧ Below w.heap.size w wr
def PSPost (xs : List PastR) (was : List Bool) (s : Int) (T : TypeId) (w : World) (e : Ending) (w' : World) : Prop :=
  ∃ v, e = .returned v ∧ w'.ownsRow w.heap.size T 1 v xs.length ((pTo xs was s xs.length).map .bool) ∧ Below w.heap.size w w'
theorem infoB : (Try.prog.info? 4).map (fun i => (i.zero, i.size, i.bytes)) = some (some (.bool false), 1, 1) := by kernel_rfl
set_option maxHeartbeats 8000000 in
set_option maxRecDepth 100000 in
theorem pastStep_first (xs : List PastR) (was : List Bool) (s : Int) (v u : Value) (w : World) (hok : PastOk xs) (hv : RecsAt 3 pastLay w v xs) (hu : BoolsAt w u was) (hwe : was = []) (hs : 0 ≤ s ∧ s ≤ 255) :
    Calls Try.prog 56 #[v, u, .int .u8 s] w (PSPost xs was s 4 w) := by
  obtain ⟨a, cap, rfl⟩ := hv.len
  obtain ⟨a2, cap2, rfl⟩ := hu.len
  have HV := Lib.hid hv; have HU := Lib.hid hu; have HO := Lib.hid hok.2.2
  have h1 := hok.1; have h2 := hok.2.1
  obtain ⟨i0, hi, hz0, hz1, hz2⟩ := info_parts infoB
  have hmk : ∀ W : World, (Instr.makeSlice 57 (.int .i64 (xs.length : Int)) (.int .i64 (xs.length : Int))).run Try.prog W = .ok (.slice (some ⟨W.heap.size, 0, none⟩) xs.length xs.length) (W.alloc (.cells (madeCells #[.bool false] xs.length) 4)) := by
    intro W
    have := run_make (P := Try.prog) W 57 4 i0 (.bool false) Try.underlying57 hi hz0 .i64 .i64 xs.length xs.length (by omega) (by omega) (by rw [hz2]; omega) (by omega)
    rw [this, hz1]
    simp [Value.cells]
  have hblk := Lib.hid (BoolBlk.made w 4 xs.length)
  have hB0 := Lib.hid ((Below.refl w.heap.size w).alloc (Nat.le_refl _) (.cells (madeCells #[.bool false] xs.length) 4))
  clear hv hu hok hi hz0 hz1 hz2
  have F : Hid ((was.length == 0) = true) := (by rw [hwe]; rfl : (was.length == 0) = true)
  have hwl : Hid (was.length = 0) := (by rw [hwe]; rfl : was.length = 0)
  rw [show ((was.length : Nat)) = 0 from hwl.out] at HU ⊢
  have HW : Hid (∀ j, was.getD j false = false) := (by rw [hwe]; intro j; rfl : ∀ j, was.getD j false = false)
  clear hwe
  go_enter Try.func56, Try.ntmps56
  go_wp2
  generalize w.alloc (.cells (madeCells #[.bool false] xs.length) 4) = w1 at *
  clear hmk
  go_loopw [20] (fun i wr => PSRel xs was s 4 w i wr) (fun i _ => xs.length - (intOf i).toNat)
  case atStart => exact ⟨0, Nat.zero_le _, rfl, hblk.out, hB0.out⟩
  case round =>
    clear hblk hB0
    obtain ⟨k, hk, rfl, hb, hB⟩ := hrel
    have HB := Lib.hid hb
    have zG := hb.lt
    have zB := hB.size
    by_cases hlt : k < xs.length
    · obtain ⟨x, hx⟩ : ∃ x, xs[k]? = some x := ⟨_, List.getElem?_eq_getElem hlt⟩
      obtain ⟨b, off, cap', hv', hl1, hl2, hc⟩ := HV.out.at_ hx
      cases hv'
      have hp := HO.out k x hx
      obtain ⟨kd, A, B⟩ := x
      have HX := Lib.hid hx
      have HS := fun bf hbf => pTo_step (s := s) HX.out F.out (b := bf) hbf
      have c0 := cell_later hB (hc 0 (by omega))
      have c1 := cell_later hB (hc 1 (by omega))
      have c2 := cell_later hB (hc 2 (by omega))
      change wr.cell? ⟨b, off + k * 3, none⟩ = some (.int .i64 kd) at c0
      change wr.cell? ⟨b, off + k * 3 + 1, none⟩ = some (.int .i64 A) at c1
      change wr.cell? ⟨b, off + k * 3 + 2, none⟩ = some (.int .i64 B) at c2
      have ck := hb.cell k hlt
      have fk := hb.frozen k
      simp only [pOk] at hp
      rcases (by omega : kd = 1 ∨ kd = 2 ∨ kd = 3 ∨ kd = 4 ∨ kd = 5 ∨ kd = 6 ∨ kd = 7 ∨ kd = 8) with rfl | rfl | rfl | rfl | rfl | rfl | rfl | rfl
--<rounds1>
      · obtain ⟨a1, a2, rfl⟩ : 0 ≤ A ∧ A ≤ 7 ∧ B = 0 := by omega
        clear hp hc hx hb
        have E : Hid (pval (1, A, 0) (pTo xs was s k) was true false s = (bits BinOp.and IntKind.u8 (s / 2 ^ A.toNat) 1 == 1)) := rfl
        go_wp2
        go_roundw
        case rel => exact ⟨k + 1, by omega, by go_num, by rw [HS false (HW.out k), E.out]; exact (HB.out.push (pTo_len _ _ _ _) hlt _).alloc _, by repeat (first | with_reducible exact Below.refl _ _ | with_reducible exact hB | ((with_reducible refine Below.setCell ?_ ?_ _); rotate_left; (· first | (simp; done) | omega | (simp; omega))) | with_reducible refine below_drewN ?_ _ | with_reducible refine Below.drew ?_ | ((with_reducible refine Below.alloc ?_ ?_ _); rotate_left; (· first | (simp; done) | omega | (simp; omega))) | exact Below.refl _ _ | exact hB | refine Below.setCell ?_ (by first | (simp; done) | omega | (simp; omega)) _ | refine below_drewN ?_ _ | refine Below.drew ?_ | refine Below.alloc ?_ (by first | (simp; done) | omega | (simp; omega)) _)⟩
        case measure => simp [intOf]; omega
      · obtain ⟨a1, a2, rfl⟩ : 0 ≤ A ∧ A < k ∧ B = 0 := by omega
        obtain ⟨A, rfl⟩ := Int.eq_ofNat_of_zero_le a1
        have cA := hb.cell A (by omega)
        obtain ⟨oA, hoA⟩ : ∃ o, (pTo xs was s k).getD A false = o := ⟨_, rfl⟩
        rw [hoA] at cA
        have HA := Lib.hid hoA
        clear hp hc hx hb hoA
        have E : Hid (pval (2, (A : Int), 0) (pTo xs was s k) was true false s = !oA) := (by simp [pval, -List.getD_eq_getElem?_getD, HA.out] : pval (2, (A : Int), 0) (pTo xs was s k) was true false s = !oA)
        cases oA
        all_goals
          go_wp2
          go_roundw
          case rel => exact ⟨k + 1, by omega, by go_num, by rw [HS false (HW.out k), E.out]; exact (HB.out.push (pTo_len _ _ _ _) hlt _).alloc _, by repeat (first | with_reducible exact Below.refl _ _ | with_reducible exact hB | ((with_reducible refine Below.setCell ?_ ?_ _); rotate_left; (· first | (simp; done) | omega | (simp; omega))) | with_reducible refine below_drewN ?_ _ | with_reducible refine Below.drew ?_ | ((with_reducible refine Below.alloc ?_ ?_ _); rotate_left; (· first | (simp; done) | omega | (simp; omega))) | exact Below.refl _ _ | exact hB | refine Below.setCell ?_ (by first | (simp; done) | omega | (simp; omega)) _ | refine below_drewN ?_ _ | refine Below.drew ?_ | refine Below.alloc ?_ (by first | (simp; done) | omega | (simp; omega)) _)⟩
          case measure => simp [intOf]; omega
      · obtain ⟨a1, a2, rfl⟩ : 0 ≤ A ∧ A < k ∧ B = 0 := by omega
        obtain ⟨A, rfl⟩ := Int.eq_ofNat_of_zero_le a1
        clear hp hc hx hb
        have E : Hid (pval (3, (A : Int), 0) (pTo xs was s k) was true false s = false) := rfl
        go_wp2
        go_roundw
        case rel => exact ⟨k + 1, by omega, by go_num, by rw [HS false (HW.out k), E.out]; exact (HB.out.push (pTo_len _ _ _ _) hlt _).alloc _, by repeat (first | with_reducible exact Below.refl _ _ | with_reducible exact hB | ((with_reducible refine Below.setCell ?_ ?_ _); rotate_left; (· first | (simp; done) | omega | (simp; omega))) | with_reducible refine below_drewN ?_ _ | with_reducible refine Below.drew ?_ | ((with_reducible refine Below.alloc ?_ ?_ _); rotate_left; (· first | (simp; done) | omega | (simp; omega))) | exact Below.refl _ _ | exact hB | refine Below.setCell ?_ (by first | (simp; done) | omega | (simp; omega)) _ | refine below_drewN ?_ _ | refine Below.drew ?_ | refine Below.alloc ?_ (by first | (simp; done) | omega | (simp; omega)) _)⟩
        case measure => simp [intOf]; omega
      · obtain ⟨a1, a2, rfl⟩ : 0 ≤ A ∧ A < k ∧ B = 0 := by omega
        obtain ⟨A, rfl⟩ := Int.eq_ofNat_of_zero_le a1
        have cA := hb.cell A (by omega)
        obtain ⟨oA, hoA⟩ : ∃ o, (pTo xs was s k).getD A false = o := ⟨_, rfl⟩
        rw [hoA] at cA
        have HA := Lib.hid hoA
        clear hp hc hx hb hoA
        have E : Hid (pval (4, (A : Int), 0) (pTo xs was s k) was true false s = (oA || false)) := (by simp [pval, -List.getD_eq_getElem?_getD, HA.out] : pval (4, (A : Int), 0) (pTo xs was s k) was true false s = (oA || false))
        cases oA
        all_goals
          go_wp2
          go_roundw
          case rel => exact ⟨k + 1, by omega, by go_num, by rw [HS false (HW.out k), E.out]; exact (HB.out.push (pTo_len _ _ _ _) hlt _).alloc _, by repeat (first | with_reducible exact Below.refl _ _ | with_reducible exact hB | ((with_reducible refine Below.setCell ?_ ?_ _); rotate_left; (· first | (simp; done) | omega | (simp; omega))) | with_reducible refine below_drewN ?_ _ | with_reducible refine Below.drew ?_ | ((with_reducible refine Below.alloc ?_ ?_ _); rotate_left; (· first | (simp; done) | omega | (simp; omega))) | exact Below.refl _ _ | exact hB | refine Below.setCell ?_ (by first | (simp; done) | omega | (simp; omega)) _ | refine below_drewN ?_ _ | refine Below.drew ?_ | refine Below.alloc ?_ (by first | (simp; done) | omega | (simp; omega)) _)⟩
          case measure => simp [intOf]; omega
      · obtain ⟨a1, a2, rfl⟩ : 0 ≤ A ∧ A < k ∧ B = 0 := by omega
        obtain ⟨A, rfl⟩ := Int.eq_ofNat_of_zero_le a1
        have cA := hb.cell A (by omega)
        obtain ⟨oA, hoA⟩ : ∃ o, (pTo xs was s k).getD A false = o := ⟨_, rfl⟩
        rw [hoA] at cA
        have HA := Lib.hid hoA
        clear hp hc hx hb hoA
        have E : Hid (pval (5, (A : Int), 0) (pTo xs was s k) was true false s = oA) := (by simp [pval, -List.getD_eq_getElem?_getD, HA.out] : pval (5, (A : Int), 0) (pTo xs was s k) was true false s = oA)
        cases oA
        all_goals
          go_wp2
          go_roundw
          case rel => exact ⟨k + 1, by omega, by go_num, by rw [HS false (HW.out k), E.out]; exact (HB.out.push (pTo_len _ _ _ _) hlt _).alloc _, by repeat (first | with_reducible exact Below.refl _ _ | with_reducible exact hB | ((with_reducible refine Below.setCell ?_ ?_ _); rotate_left; (· first | (simp; done) | omega | (simp; omega))) | with_reducible refine below_drewN ?_ _ | with_reducible refine Below.drew ?_ | ((with_reducible refine Below.alloc ?_ ?_ _); rotate_left; (· first | (simp; done) | omega | (simp; omega))) | exact Below.refl _ _ | exact hB | refine Below.setCell ?_ (by first | (simp; done) | omega | (simp; omega)) _ | refine below_drewN ?_ _ | refine Below.drew ?_ | refine Below.alloc ?_ (by first | (simp; done) | omega | (simp; omega)) _)⟩
          case measure => simp [intOf]; omega
      · obtain ⟨a1, a2, b1, b2⟩ : 0 ≤ A ∧ A < k ∧ 0 ≤ B ∧ B < k := by omega
        obtain ⟨A, rfl⟩ := Int.eq_ofNat_of_zero_le a1
        obtain ⟨B, rfl⟩ := Int.eq_ofNat_of_zero_le b1
        have cA := hb.cell A (by omega)
        obtain ⟨oA, hoA⟩ : ∃ o, (pTo xs was s k).getD A false = o := ⟨_, rfl⟩
        rw [hoA] at cA
        have HA := Lib.hid hoA
        have cB := hb.cell B (by omega)
        obtain ⟨oB, hoB⟩ : ∃ o, (pTo xs was s k).getD B false = o := ⟨_, rfl⟩
        rw [hoB] at cB
        have HB2 := Lib.hid hoB
        clear hp hc hx hb hoA hoB
        have E : Hid (pval (6, (A : Int), (B : Int)) (pTo xs was s k) was true false s = (oA && oB)) := (by simp [pval, -List.getD_eq_getElem?_getD, HA.out, HB2.out] : pval (6, (A : Int), (B : Int)) (pTo xs was s k) was true false s = (oA && oB))
        cases oA <;> cases oB
        all_goals
          go_wp2
          go_roundw
          case rel => exact ⟨k + 1, by omega, by go_num, by rw [HS false (HW.out k), E.out]; exact (HB.out.push (pTo_len _ _ _ _) hlt _).alloc _, by repeat (first | with_reducible exact Below.refl _ _ | with_reducible exact hB | ((with_reducible refine Below.setCell ?_ ?_ _); rotate_left; (· first | (simp; done) | omega | (simp; omega))) | with_reducible refine below_drewN ?_ _ | with_reducible refine Below.drew ?_ | ((with_reducible refine Below.alloc ?_ ?_ _); rotate_left; (· first | (simp; done) | omega | (simp; omega))) | exact Below.refl _ _ | exact hB | refine Below.setCell ?_ (by first | (simp; done) | omega | (simp; omega)) _ | refine below_drewN ?_ _ | refine Below.drew ?_ | refine Below.alloc ?_ (by first | (simp; done) | omega | (simp; omega)) _)⟩
          case measure => simp [intOf]; omega
      · obtain ⟨a1, a2, b1, b2⟩ : 0 ≤ A ∧ A < k ∧ 0 ≤ B ∧ B < k := by omega
        obtain ⟨A, rfl⟩ := Int.eq_ofNat_of_zero_le a1
        obtain ⟨B, rfl⟩ := Int.eq_ofNat_of_zero_le b1
        have cA := hb.cell A (by omega)
        obtain ⟨oA, hoA⟩ : ∃ o, (pTo xs was s k).getD A false = o := ⟨_, rfl⟩
        rw [hoA] at cA
        have HA := Lib.hid hoA
        have cB := hb.cell B (by omega)
        obtain ⟨oB, hoB⟩ : ∃ o, (pTo xs was s k).getD B false = o := ⟨_, rfl⟩
        rw [hoB] at cB
        have HB2 := Lib.hid hoB
        clear hp hc hx hb hoA hoB
        have E : Hid (pval (7, (A : Int), (B : Int)) (pTo xs was s k) was true false s = (oA || oB)) := (by simp [pval, -List.getD_eq_getElem?_getD, HA.out, HB2.out] : pval (7, (A : Int), (B : Int)) (pTo xs was s k) was true false s = (oA || oB))
        cases oA <;> cases oB
        all_goals
          go_wp2
          go_roundw
          case rel => exact ⟨k + 1, by omega, by go_num, by rw [HS false (HW.out k), E.out]; exact (HB.out.push (pTo_len _ _ _ _) hlt _).alloc _, by repeat (first | with_reducible exact Below.refl _ _ | with_reducible exact hB | ((with_reducible refine Below.setCell ?_ ?_ _); rotate_left; (· first | (simp; done) | omega | (simp; omega))) | with_reducible refine below_drewN ?_ _ | with_reducible refine Below.drew ?_ | ((with_reducible refine Below.alloc ?_ ?_ _); rotate_left; (· first | (simp; done) | omega | (simp; omega))) | exact Below.refl _ _ | exact hB | refine Below.setCell ?_ (by first | (simp; done) | omega | (simp; omega)) _ | refine below_drewN ?_ _ | refine Below.drew ?_ | refine Below.alloc ?_ (by first | (simp; done) | omega | (simp; omega)) _)⟩
          case measure => simp [intOf]; omega
      · obtain ⟨a1, a2, b1, b2⟩ : 0 ≤ A ∧ A < k ∧ 0 ≤ B ∧ B < k := by omega
        obtain ⟨A, rfl⟩ := Int.eq_ofNat_of_zero_le a1
        obtain ⟨B, rfl⟩ := Int.eq_ofNat_of_zero_le b1
        have cA := hb.cell A (by omega)
        obtain ⟨oA, hoA⟩ : ∃ o, (pTo xs was s k).getD A false = o := ⟨_, rfl⟩
        rw [hoA] at cA
        have HA := Lib.hid hoA
        have cB := hb.cell B (by omega)
        obtain ⟨oB, hoB⟩ : ∃ o, (pTo xs was s k).getD B false = o := ⟨_, rfl⟩
        rw [hoB] at cB
        have HB2 := Lib.hid hoB
        clear hp hc hx hb hoA hoB
        have E : Hid (pval (8, (A : Int), (B : Int)) (pTo xs was s k) was true false s = oB) := (by simp [pval, -List.getD_eq_getElem?_getD, HA.out, HB2.out] : pval (8, (A : Int), (B : Int)) (pTo xs was s k) was true false s = oB)
        cases oA <;> cases oB
        all_goals
          go_wp2
          go_roundw
          case rel => exact ⟨k + 1, by omega, by go_num, by rw [HS false (HW.out k), E.out]; exact (HB.out.push (pTo_len _ _ _ _) hlt _).alloc _, by repeat (first | with_reducible exact Below.refl _ _ | with_reducible exact hB | ((with_reducible refine Below.setCell ?_ ?_ _); rotate_left; (· first | (simp; done) | omega | (simp; omega))) | with_reducible refine below_drewN ?_ _ | with_reducible refine Below.drew ?_ | ((with_reducible refine Below.alloc ?_ ?_ _); rotate_left; (· first | (simp; done) | omega | (simp; omega))) | exact Below.refl _ _ | exact hB | refine Below.setCell ?_ (by first | (simp; done) | omega | (simp; omega)) _ | refine below_drewN ?_ _ | refine Below.drew ?_ | refine Below.alloc ?_ (by first | (simp; done) | omega | (simp; omega)) _)⟩
          case measure => simp [intOf]; omega
--</rounds1>
    · obtain rfl : k = xs.length := by omega
      go_wp2
      go_ret
      exact ⟨_, rfl, HB.out.own (pTo_len _ _ _ _) (Nat.le_refl _) (by unfold maxLen; omega), hB⟩
set_option maxHeartbeats 8000000 in
set_option maxRecDepth 100000 in
theorem pastStep_next (xs : List PastR) (was : List Bool) (s : Int) (v u : Value) (w : World) (hok : PastOk xs) (hv : RecsAt 3 pastLay w v xs) (hu : BoolsAt w u was) (hwe : was ≠ []) (hwl : was.length = xs.length) (hs : 0 ≤ s ∧ s ≤ 255) :
    Calls Try.prog 56 #[v, u, .int .u8 s] w (PSPost xs was s 4 w) := by
  obtain ⟨a, cap, rfl⟩ := hv.len
  obtain ⟨a2, cap2, rfl⟩ := hu.len
  have HV := Lib.hid hv; have HU := Lib.hid hu; have HO := Lib.hid hok.2.2
  have h1 := hok.1; have h2 := hok.2.1
  obtain ⟨i0, hi, hz0, hz1, hz2⟩ := info_parts infoB
  have hmk : ∀ W : World, (Instr.makeSlice 57 (.int .i64 (xs.length : Int)) (.int .i64 (xs.length : Int))).run Try.prog W = .ok (.slice (some ⟨W.heap.size, 0, none⟩) xs.length xs.length) (W.alloc (.cells (madeCells #[.bool false] xs.length) 4)) := by
    intro W
    have := run_make (P := Try.prog) W 57 4 i0 (.bool false) Try.underlying57 hi hz0 .i64 .i64 xs.length xs.length (by omega) (by omega) (by rw [hz2]; omega) (by omega)
    rw [this, hz1]
    simp [Value.cells]
  have hblk := Lib.hid (BoolBlk.made w 4 xs.length)
  have hB0 := Lib.hid ((Below.refl w.heap.size w).alloc (Nat.le_refl _) (.cells (madeCells #[.bool false] xs.length) 4))
  clear hv hu hok hi hz0 hz1 hz2
  have F : Hid ((was.length == 0) = false) := (by simp; exact hwe : (was.length == 0) = false)
  rcases HU.out with ⟨hn, -⟩ | ⟨-, b2, off2, cap3, hv2, hl3, hm3, huc⟩
  · exact absurd hn hwe
  cases hv2
  rw [hwl] at huc hl3 ⊢
  have HUC := Lib.hid huc
  have dl : ((xs.length : Int) == 0) = false := by rw [beq_eq_false_iff_ne]; omega
  have dl2 : (xs.length == 0) = false := by rw [beq_eq_false_iff_ne]; omega
  clear hwe hwl huc HU
  go_enter Try.func56, Try.ntmps56
  go_wp2
  generalize w.alloc (.cells (madeCells #[.bool false] xs.length) 4) = w1 at *
  clear hmk
  go_loopw [20] (fun i wr => PSRel xs was s 4 w i wr) (fun i _ => xs.length - (intOf i).toNat)
  case atStart => exact ⟨0, Nat.zero_le _, rfl, hblk.out, hB0.out⟩
  case round =>
    clear hblk hB0
    obtain ⟨k, hk, rfl, hb, hB⟩ := hrel
    have HB := Lib.hid hb
    have zG := hb.lt
    have zB := hB.size
    by_cases hlt : k < xs.length
    · obtain ⟨x, hx⟩ : ∃ x, xs[k]? = some x := ⟨_, List.getElem?_eq_getElem hlt⟩
      obtain ⟨b, off, cap', hv', hl1, hl2, hc⟩ := HV.out.at_ hx
      cases hv'
      have hp := HO.out k x hx
      obtain ⟨kd, A, B⟩ := x
      have HX := Lib.hid hx
      have HS := fun bf hbf => pTo_step (s := s) HX.out F.out (b := bf) hbf
      have c0 := cell_later hB (hc 0 (by omega))
      have c1 := cell_later hB (hc 1 (by omega))
      have c2 := cell_later hB (hc 2 (by omega))
      change wr.cell? ⟨b, off + k * 3, none⟩ = some (.int .i64 kd) at c0
      change wr.cell? ⟨b, off + k * 3 + 1, none⟩ = some (.int .i64 A) at c1
      change wr.cell? ⟨b, off + k * 3 + 2, none⟩ = some (.int .i64 B) at c2
      have ck := hb.cell k hlt
      have fk := hb.frozen k
      have cu := HUC.out k hlt
      obtain ⟨bf, hbf⟩ : ∃ o, was.getD k false = o := ⟨_, rfl⟩
      rw [hbf] at cu
      replace cu := cell_later hB cu
      have zb2 : b2 < wr.heap.size := World.block_lt_of_cell? _ _ cu
      have HBF := Lib.hid hbf
      clear hbf
      simp only [pOk] at hp
      rcases (by omega : kd = 1 ∨ kd = 2 ∨ kd = 3 ∨ kd = 4 ∨ kd = 5 ∨ kd = 6 ∨ kd = 7 ∨ kd = 8) with rfl | rfl | rfl | rfl | rfl | rfl | rfl | rfl
--<rounds2>
      · obtain ⟨a1, a2, rfl⟩ : 0 ≤ A ∧ A ≤ 7 ∧ B = 0 := by omega
        clear hp hc hx hb
        have E : Hid (pval (1, A, 0) (pTo xs was s k) was false bf s = (bits BinOp.and IntKind.u8 (s / 2 ^ A.toNat) 1 == 1)) := rfl
        go_wp2
        go_roundw
        case rel => exact ⟨k + 1, by omega, by go_num, by rw [HS _ HBF.out, E.out]; exact (HB.out.push (pTo_len _ _ _ _) hlt _).alloc _, by repeat (first | with_reducible exact Below.refl _ _ | with_reducible exact hB | ((with_reducible refine Below.setCell ?_ ?_ _); rotate_left; (· first | (simp; done) | omega | (simp; omega))) | with_reducible refine below_drewN ?_ _ | with_reducible refine Below.drew ?_ | ((with_reducible refine Below.alloc ?_ ?_ _); rotate_left; (· first | (simp; done) | omega | (simp; omega))) | exact Below.refl _ _ | exact hB | refine Below.setCell ?_ (by first | (simp; done) | omega | (simp; omega)) _ | refine below_drewN ?_ _ | refine Below.drew ?_ | refine Below.alloc ?_ (by first | (simp; done) | omega | (simp; omega)) _)⟩
        case measure => simp [intOf]; omega
      · obtain ⟨a1, a2, rfl⟩ : 0 ≤ A ∧ A < k ∧ B = 0 := by omega
        obtain ⟨A, rfl⟩ := Int.eq_ofNat_of_zero_le a1
        have cA := hb.cell A (by omega)
        obtain ⟨oA, hoA⟩ : ∃ o, (pTo xs was s k).getD A false = o := ⟨_, rfl⟩
        rw [hoA] at cA
        have HA := Lib.hid hoA
        clear hp hc hx hb hoA
        have E : Hid (pval (2, (A : Int), 0) (pTo xs was s k) was false bf s = !oA) := (by simp [pval, -List.getD_eq_getElem?_getD, HA.out] : pval (2, (A : Int), 0) (pTo xs was s k) was false bf s = !oA)
        cases oA
        all_goals
          go_wp2
          go_roundw
          case rel => exact ⟨k + 1, by omega, by go_num, by rw [HS _ HBF.out, E.out]; exact (HB.out.push (pTo_len _ _ _ _) hlt _).alloc _, by repeat (first | with_reducible exact Below.refl _ _ | with_reducible exact hB | ((with_reducible refine Below.setCell ?_ ?_ _); rotate_left; (· first | (simp; done) | omega | (simp; omega))) | with_reducible refine below_drewN ?_ _ | with_reducible refine Below.drew ?_ | ((with_reducible refine Below.alloc ?_ ?_ _); rotate_left; (· first | (simp; done) | omega | (simp; omega))) | exact Below.refl _ _ | exact hB | refine Below.setCell ?_ (by first | (simp; done) | omega | (simp; omega)) _ | refine below_drewN ?_ _ | refine Below.drew ?_ | refine Below.alloc ?_ (by first | (simp; done) | omega | (simp; omega)) _)⟩
          case measure => simp [intOf]; omega
      · obtain ⟨a1, a2, rfl⟩ : 0 ≤ A ∧ A < k ∧ B = 0 := by omega
        obtain ⟨A, rfl⟩ := Int.eq_ofNat_of_zero_le a1
        have cA := HUC.out A (by omega)
        obtain ⟨oA, hoA⟩ : ∃ o, was.getD A false = o := ⟨_, rfl⟩
        rw [hoA] at cA
        replace cA := cell_later hB cA
        have HA := Lib.hid hoA
        clear hp hc hx hb hoA
        have E : Hid (pval (3, (A : Int), 0) (pTo xs was s k) was false bf s = oA) := (by simp [pval, -List.getD_eq_getElem?_getD, HA.out] : pval (3, (A : Int), 0) (pTo xs was s k) was false bf s = oA)
        cases oA
        all_goals
          go_wp2
          go_roundw
          case rel => exact ⟨k + 1, by omega, by go_num, by rw [HS _ HBF.out, E.out]; exact (HB.out.push (pTo_len _ _ _ _) hlt _).alloc _, by repeat (first | with_reducible exact Below.refl _ _ | with_reducible exact hB | ((with_reducible refine Below.setCell ?_ ?_ _); rotate_left; (· first | (simp; done) | omega | (simp; omega))) | with_reducible refine below_drewN ?_ _ | with_reducible refine Below.drew ?_ | ((with_reducible refine Below.alloc ?_ ?_ _); rotate_left; (· first | (simp; done) | omega | (simp; omega))) | exact Below.refl _ _ | exact hB | refine Below.setCell ?_ (by first | (simp; done) | omega | (simp; omega)) _ | refine below_drewN ?_ _ | refine Below.drew ?_ | refine Below.alloc ?_ (by first | (simp; done) | omega | (simp; omega)) _)⟩
          case measure => simp [intOf]; omega
      · obtain ⟨a1, a2, rfl⟩ : 0 ≤ A ∧ A < k ∧ B = 0 := by omega
        obtain ⟨A, rfl⟩ := Int.eq_ofNat_of_zero_le a1
        have cA := hb.cell A (by omega)
        obtain ⟨oA, hoA⟩ : ∃ o, (pTo xs was s k).getD A false = o := ⟨_, rfl⟩
        rw [hoA] at cA
        have HA := Lib.hid hoA
        clear hp hc hx hb hoA
        have E : Hid (pval (4, (A : Int), 0) (pTo xs was s k) was false bf s = (oA || bf)) := (by simp [pval, -List.getD_eq_getElem?_getD, HA.out] : pval (4, (A : Int), 0) (pTo xs was s k) was false bf s = (oA || bf))
        cases oA
        all_goals
          go_wp2
          go_roundw
          case rel => exact ⟨k + 1, by omega, by go_num, by rw [HS _ HBF.out, E.out]; exact (HB.out.push (pTo_len _ _ _ _) hlt _).alloc _, by repeat (first | with_reducible exact Below.refl _ _ | with_reducible exact hB | ((with_reducible refine Below.setCell ?_ ?_ _); rotate_left; (· first | (simp; done) | omega | (simp; omega))) | with_reducible refine below_drewN ?_ _ | with_reducible refine Below.drew ?_ | ((with_reducible refine Below.alloc ?_ ?_ _); rotate_left; (· first | (simp; done) | omega | (simp; omega))) | exact Below.refl _ _ | exact hB | refine Below.setCell ?_ (by first | (simp; done) | omega | (simp; omega)) _ | refine below_drewN ?_ _ | refine Below.drew ?_ | refine Below.alloc ?_ (by first | (simp; done) | omega | (simp; omega)) _)⟩
          case measure => simp [intOf]; omega
      · obtain ⟨a1, a2, rfl⟩ : 0 ≤ A ∧ A < k ∧ B = 0 := by omega
        obtain ⟨A, rfl⟩ := Int.eq_ofNat_of_zero_le a1
        have cA := hb.cell A (by omega)
        obtain ⟨oA, hoA⟩ : ∃ o, (pTo xs was s k).getD A false = o := ⟨_, rfl⟩
        rw [hoA] at cA
        have HA := Lib.hid hoA
        clear hp hc hx hb hoA
        have E : Hid (pval (5, (A : Int), 0) (pTo xs was s k) was false bf s = (oA && bf)) := (by simp [pval, -List.getD_eq_getElem?_getD, HA.out] : pval (5, (A : Int), 0) (pTo xs was s k) was false bf s = (oA && bf))
        cases oA
        all_goals
          go_wp2
          go_roundw
          case rel => exact ⟨k + 1, by omega, by go_num, by rw [HS _ HBF.out, E.out]; exact (HB.out.push (pTo_len _ _ _ _) hlt _).alloc _, by repeat (first | with_reducible exact Below.refl _ _ | with_reducible exact hB | ((with_reducible refine Below.setCell ?_ ?_ _); rotate_left; (· first | (simp; done) | omega | (simp; omega))) | with_reducible refine below_drewN ?_ _ | with_reducible refine Below.drew ?_ | ((with_reducible refine Below.alloc ?_ ?_ _); rotate_left; (· first | (simp; done) | omega | (simp; omega))) | exact Below.refl _ _ | exact hB | refine Below.setCell ?_ (by first | (simp; done) | omega | (simp; omega)) _ | refine below_drewN ?_ _ | refine Below.drew ?_ | refine Below.alloc ?_ (by first | (simp; done) | omega | (simp; omega)) _)⟩
          case measure => simp [intOf]; omega
      · obtain ⟨a1, a2, b1, b2⟩ : 0 ≤ A ∧ A < k ∧ 0 ≤ B ∧ B < k := by omega
        obtain ⟨A, rfl⟩ := Int.eq_ofNat_of_zero_le a1
        obtain ⟨B, rfl⟩ := Int.eq_ofNat_of_zero_le b1
        have cA := hb.cell A (by omega)
        obtain ⟨oA, hoA⟩ : ∃ o, (pTo xs was s k).getD A false = o := ⟨_, rfl⟩
        rw [hoA] at cA
        have HA := Lib.hid hoA
        have cB := hb.cell B (by omega)
        obtain ⟨oB, hoB⟩ : ∃ o, (pTo xs was s k).getD B false = o := ⟨_, rfl⟩
        rw [hoB] at cB
        have HB2 := Lib.hid hoB
        clear hp hc hx hb hoA hoB
        have E : Hid (pval (6, (A : Int), (B : Int)) (pTo xs was s k) was false bf s = (oA && oB)) := (by simp [pval, -List.getD_eq_getElem?_getD, HA.out, HB2.out] : pval (6, (A : Int), (B : Int)) (pTo xs was s k) was false bf s = (oA && oB))
        cases oA <;> cases oB
        all_goals
          go_wp2
          go_roundw
          case rel => exact ⟨k + 1, by omega, by go_num, by rw [HS _ HBF.out, E.out]; exact (HB.out.push (pTo_len _ _ _ _) hlt _).alloc _, by repeat (first | with_reducible exact Below.refl _ _ | with_reducible exact hB | ((with_reducible refine Below.setCell ?_ ?_ _); rotate_left; (· first | (simp; done) | omega | (simp; omega))) | with_reducible refine below_drewN ?_ _ | with_reducible refine Below.drew ?_ | ((with_reducible refine Below.alloc ?_ ?_ _); rotate_left; (· first | (simp; done) | omega | (simp; omega))) | exact Below.refl _ _ | exact hB | refine Below.setCell ?_ (by first | (simp; done) | omega | (simp; omega)) _ | refine below_drewN ?_ _ | refine Below.drew ?_ | refine Below.alloc ?_ (by first | (simp; done) | omega | (simp; omega)) _)⟩
          case measure => simp [intOf]; omega
      · obtain ⟨a1, a2, b1, b2⟩ : 0 ≤ A ∧ A < k ∧ 0 ≤ B ∧ B < k := by omega
        obtain ⟨A, rfl⟩ := Int.eq_ofNat_of_zero_le a1
        obtain ⟨B, rfl⟩ := Int.eq_ofNat_of_zero_le b1
        have cA := hb.cell A (by omega)
        obtain ⟨oA, hoA⟩ : ∃ o, (pTo xs was s k).getD A false = o := ⟨_, rfl⟩
        rw [hoA] at cA
        have HA := Lib.hid hoA
        have cB := hb.cell B (by omega)
        obtain ⟨oB, hoB⟩ : ∃ o, (pTo xs was s k).getD B false = o := ⟨_, rfl⟩
        rw [hoB] at cB
        have HB2 := Lib.hid hoB
        clear hp hc hx hb hoA hoB
        have E : Hid (pval (7, (A : Int), (B : Int)) (pTo xs was s k) was false bf s = (oA || oB)) := (by simp [pval, -List.getD_eq_getElem?_getD, HA.out, HB2.out] : pval (7, (A : Int), (B : Int)) (pTo xs was s k) was false bf s = (oA || oB))
        cases oA <;> cases oB
        all_goals
          go_wp2
          go_roundw
          case rel => exact ⟨k + 1, by omega, by go_num, by rw [HS _ HBF.out, E.out]; exact (HB.out.push (pTo_len _ _ _ _) hlt _).alloc _, by repeat (first | with_reducible exact Below.refl _ _ | with_reducible exact hB | ((with_reducible refine Below.setCell ?_ ?_ _); rotate_left; (· first | (simp; done) | omega | (simp; omega))) | with_reducible refine below_drewN ?_ _ | with_reducible refine Below.drew ?_ | ((with_reducible refine Below.alloc ?_ ?_ _); rotate_left; (· first | (simp; done) | omega | (simp; omega))) | exact Below.refl _ _ | exact hB | refine Below.setCell ?_ (by first | (simp; done) | omega | (simp; omega)) _ | refine below_drewN ?_ _ | refine Below.drew ?_ | refine Below.alloc ?_ (by first | (simp; done) | omega | (simp; omega)) _)⟩
          case measure => simp [intOf]; omega
      · obtain ⟨a1, a2, b1, b2⟩ : 0 ≤ A ∧ A < k ∧ 0 ≤ B ∧ B < k := by omega
        obtain ⟨A, rfl⟩ := Int.eq_ofNat_of_zero_le a1
        obtain ⟨B, rfl⟩ := Int.eq_ofNat_of_zero_le b1
        have cA := hb.cell A (by omega)
        obtain ⟨oA, hoA⟩ : ∃ o, (pTo xs was s k).getD A false = o := ⟨_, rfl⟩
        rw [hoA] at cA
        have HA := Lib.hid hoA
        have cB := hb.cell B (by omega)
        obtain ⟨oB, hoB⟩ : ∃ o, (pTo xs was s k).getD B false = o := ⟨_, rfl⟩
        rw [hoB] at cB
        have HB2 := Lib.hid hoB
        clear hp hc hx hb hoA hoB
        have E : Hid (pval (8, (A : Int), (B : Int)) (pTo xs was s k) was false bf s = (oB || oA && bf)) := (by simp [pval, -List.getD_eq_getElem?_getD, HA.out, HB2.out] : pval (8, (A : Int), (B : Int)) (pTo xs was s k) was false bf s = (oB || oA && bf))
        cases oA <;> cases oB
        all_goals
          go_wp2
          go_roundw
          case rel => exact ⟨k + 1, by omega, by go_num, by rw [HS _ HBF.out, E.out]; exact (HB.out.push (pTo_len _ _ _ _) hlt _).alloc _, by repeat (first | with_reducible exact Below.refl _ _ | with_reducible exact hB | ((with_reducible refine Below.setCell ?_ ?_ _); rotate_left; (· first | (simp; done) | omega | (simp; omega))) | with_reducible refine below_drewN ?_ _ | with_reducible refine Below.drew ?_ | ((with_reducible refine Below.alloc ?_ ?_ _); rotate_left; (· first | (simp; done) | omega | (simp; omega))) | exact Below.refl _ _ | exact hB | refine Below.setCell ?_ (by first | (simp; done) | omega | (simp; omega)) _ | refine below_drewN ?_ _ | refine Below.drew ?_ | refine Below.alloc ?_ (by first | (simp; done) | omega | (simp; omega)) _)⟩
          case measure => simp [intOf]; omega
--</rounds2>
    · obtain rfl : k = xs.length := by omega
      go_wp2
      go_ret
      exact ⟨_, rfl, HB.out.own (pTo_len _ _ _ _) (Nat.le_refl _) (by unfold maxLen; omega), hB⟩
theorem pastStep_any (xs : List PastR) (was : List Bool) (s : Int) (v u : Value) (w : World) (hok : PastOk xs) (hv : RecsAt 3 pastLay w v xs) (hu : BoolsAt w u was) (hw : was = [] ∨ was.length = xs.length) (hs : 0 ≤ s ∧ s ≤ 255) :
    Calls Try.prog 56 #[v, u, .int .u8 s] w (PSPost xs was s 4 w) := by
  by_cases hwe : was = []
  · exact pastStep_first xs was s v u w hok hv hu hwe hs
  · exact pastStep_next xs was s v u w hok hv hu hwe (hw.resolve_left hwe) hs

end Go.Proofs.Ytglagndpholejaa
