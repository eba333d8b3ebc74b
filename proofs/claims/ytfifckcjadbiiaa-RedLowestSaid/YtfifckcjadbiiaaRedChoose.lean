/- What red.choose computes. -/
import Derived.Test.YtfifckcjadbiiaaRedUse
import Derived.RegionTactic
import Derived.StillTailTactics
namespace Go.Proofs.Ytfifckcjadbiiaa
open Go.ChangeShapes Go.WideShapes Go.ChangeAt Go.RowKit
set_option linter.unusedVariables false

theorem grownBy_two {w w1 w2 : World} {r : Option Nat} (h : w.grownBy w1 r) (k : w1.grownBy w2 r) : w.grownBy w2 r :=
  ⟨k.os.trans h.os, k.tape.trans h.tape, k.output.trans h.output, Nat.le_trans h.size k.size, fun i hi hne => (k.block i (Nat.lt_of_lt_of_le hi h.size) hne).trans (h.block i hi hne)⟩
theorem grownBy_refl (w : World) (r : Option Nat) : w.grownBy w r := ⟨rfl, rfl, rfl, Nat.le_refl _, fun _ _ _ => rfl⟩
theorem grown_alloc_drew (w : World) (o : Obj) (r : Option Nat) : w.grownBy (w.alloc o).drew r :=
  let h := World.grownBy_alloc w o r
  ⟨h.os, h.tape, h.output, h.size, h.block⟩
theorem TeamAt.alloc_drew {w : World} {b : Nat} {T : Team} (h : TeamAt w b T) (o : Obj) : TeamAt (w.alloc o).drew b T := h.later (((Below.refl w.heap.size w).alloc (Nat.le_refl _) o).drew) h.lt
/-- each of the first k lanes has gone a step -/
def tk (g : Nat → Int × Bool × Int → Int × Bool × Int) (T : Team) (k : Nat) : Team := fun j => if j < k then g j (T j) else T j
theorem tk_zero (g : Nat → Int × Bool × Int → Int × Bool × Int) (T : Team) : tk g T 0 = T := by funext j; simp [tk]
theorem tk_at (g : Nat → Int × Bool × Int → Int × Bool × Int) (T : Team) (k : Nat) : tk g T k k = T k := by simp [tk]
theorem tk_succ (g : Nat → Int × Bool × Int → Int × Bool × Int) (T : Team) (k : Nat) : upd (tk g T k) k (g k (T k)) = tk g T (k + 1) := by
  funext j
  unfold upd tk
  by_cases h : j = k
  · subst h; simp
  · rw [if_neg h]
    by_cases h2 : j < k
    · rw [if_pos h2, if_pos (by omega)]
    · rw [if_neg h2, if_neg (by omega)]
theorem tk_same {g : Nat → Int × Bool × Int → Int × Bool × Int} {T : Team} {k : Nat} (h : g k (T k) = T k) : tk g T (k + 1) = tk g T k := by
  rw [← tk_succ, h]
  funext j
  unfold upd
  by_cases hj : j = k
  · rw [if_pos hj, hj, tk_at]
  · rw [if_neg hj]
def dampS (_ : Nat) (s : Int × Bool × Int) : Int × Bool × Int := nx s 5
def freeS (_ : Nat) (s : Int × Bool × Int) : Int × Bool × Int := if s.1 = 3 then nx s 6 else s
/-- the usable lanes are armed, but for the first two they are disarmed -/
def armT (T : Team) (U : List Nat) : Nat → Team
  | 0 => T
  | n + 1 => upd (armT T U n) (U.getD n 0) (nx (armT T U n (U.getD n 0)) (if n < 2 then 1 else 2))
theorem armT_ok {T : Team} {U : List Nat} (h : ∀ j, j < 4 → OkS (T j)) (n : Nat) : ∀ j, j < 4 → OkS (armT T U n j) := by
  induction n with
  | zero => exact h
  | succ n ih =>
    intro j hj
    simp only [armT, upd]
    split
    · rename_i hj2
      subst hj2
      exact nx_ok (ih _ hj) (by split <;> omega)
    · exact ih j hj
def ChRel (w : World) (b : Nat) (g : Nat → Int × Bool × Int → Int × Bool × Int) (T : Team) (i : Value) (wr : World) : Prop := ∃ k : Nat, k ≤ 4 ∧ i = .int .i64 k ∧ TeamAt wr b (tk g T k) ∧ w.grownBy wr (some b)
def ArmRel (w : World) (b : Nat) (T : Team) (U : List Nat) (i : Value) (wr : World) : Prop := ∃ n : Nat, n ≤ U.length ∧ i = .int .i64 n ∧ TeamAt wr b (armT T U n) ∧ w.grownBy wr (some b)
set_option maxHeartbeats 4000000 in
set_option maxRecDepth 100000 in
theorem choose_none (b : Nat) (T : Team) (a : Option Addr) (cap : Nat) (w : World) (hT : TeamAt w b T) (hok : ∀ j, j < 4 → OkS (T j)) :
    Calls Try.prog 24 #[.pointer (some ⟨b, 0, none⟩), .slice a 0 cap] w (OnPost b (tk dampS T 4) w) := by
  have HT := Lib.hid hT; have HOK := Lib.hid hok
  clear hT hok
  go_enter Try.func24, Try.ntmps24
  go_wp2
  go_loopw [12] (fun i wr => ChRel w b dampS T i wr) (fun i _ => 4 - (intOf i).toNat)
  case atStart => exact ⟨0, by omega, rfl, by rw [tk_zero]; exact HT.out, grownBy_refl _ _⟩
  case round =>
    obtain ⟨k, hk, rfl, hTk, hg⟩ := hrel
    have HTK := Lib.hid hTk; have HG := Lib.hid hg
    clear hTk hg
    by_cases hlt : k < 4
    · have hd : (k : Int) < 4 := by omega
      go_wp2_with fail
      refine (on_any b _ k hlt 5 (by omega) _ HTK.out (by rw [tk_at]; exact HOK.out k hlt)).mono ?_
      rintro e1 w1 ⟨rfl, hT1, hg1⟩
      have HT1 := Lib.hid hT1; have HG1 := Lib.hid hg1
      clear hT1 hg1
      go_wp2
      go_roundw
      case rel => exact ⟨k + 1, by omega, by go_num, by have := HT1.out; rw [tk_at] at this; rw [← tk_succ]; exact this, grownBy_two HG.out HG1.out⟩
      case measure => simp [intOf]; omega
    · obtain rfl : k = 4 := by omega
      go_wp2
      exact bodyPost_ret (v := .tuple #[]) (by simp [results, Try.results24, go_sem]) rfl ⟨rfl, HTK.out, HG.out⟩
set_option maxHeartbeats 8000000 in
set_option maxRecDepth 100000 in
theorem choose_some (b : Nat) (T : Team) (g cap : Nat) (U : List Nat) (w : World) (hT : TeamAt w b T) (hok : ∀ j, j < 4 → OkS (T j)) (hU : 0 < U.length ∧ U.length ≤ 4) (hU4 : ∀ i, i < U.length → U.getD i 0 < 4) (hg : g ≠ b ∧ g < w.heap.size) (hc : U.length ≤ cap ∧ cap ≤ 9223372036854775807)
    (hcell : ∀ i, i < U.length → w.cell? ⟨g, i, none⟩ = some (.int .i64 (U.getD i 0 : Nat))) :
    Calls Try.prog 24 #[.pointer (some ⟨b, 0, none⟩), .slice (some ⟨g, 0, none⟩) U.length cap] w (OnPost b (armT (tk freeS T 4) U U.length) w) := by
  have HT := Lib.hid hT; have HOK := Lib.hid hok; have HC := Lib.hid hcell; have HU4 := Lib.hid hU4
  obtain ⟨hg1, hg2⟩ := hg
  have hUn : ¬ U.length = 0 := by omega
  have hU0 : ((U.length : Int) == 0) = false := beq_eq_false_iff_ne.2 (by omega)
  have hbb := HT.out.lt
  clear hT hok hcell hU4
  go_enter Try.func24, Try.ntmps24
  go_wp2
  go_loopw [21] (fun i wr => ChRel w b freeS T i wr) (fun i _ => 4 - (intOf i).toNat)
  case atStart => exact ⟨0, by omega, rfl, by rw [tk_zero]; exact HT.out, grownBy_refl _ _⟩
  case round =>
    obtain ⟨k, hk, rfl, hTk, hgw⟩ := hrel
    have HTK := Lib.hid hTk; have HG := Lib.hid hgw
    clear hTk hgw
    by_cases hlt : k < 4
    · rcases (by omega : k = 0 ∨ k = 1 ∨ k = 2 ∨ k = 3) with rfl | rfl | rfl | rfl
      · have hd : ((0 : Nat) : Int) < 4 := by omega
        obtain ⟨c0, c1, c2⟩ := HTK.out.1 0 (by omega)
        rw [tk_at] at c0 c1 c2
        change wr.cell? ⟨b, 0, none⟩ = _ at c0
        change wr.cell? ⟨b, 1, none⟩ = _ at c1
        change wr.cell? ⟨b, 2, none⟩ = _ at c2
        have hok := HOK.out 0 (by omega)
        have hbw : b < wr.heap.size := HTK.out.lt
        have HO := Lib.hid hok
        clear hok
        by_cases h3 : (T 0).1 = 3
        · have d3 : ((T 0).1 == 3) = true := by simpa using h3
          have HF : Hid (freeS 0 (T 0) = nx (T 0) 6) := (by unfold freeS; rw [if_pos h3] : freeS 0 (T 0) = nx (T 0) 6)
          clear h3
          go_wp2
          go_region
          go_wp2_with fail
          refine (on_any b _ 0 (by omega) 6 (by omega) _ (HTK.out.alloc_drew _) (by rw [tk_at]; exact HO.out)).mono ?_
          rintro e1 w1 ⟨rfl, hT1, hg1⟩
          have HT1 := Lib.hid hT1; have HG1 := Lib.hid hg1
          clear hT1 hg1 c0 c1 c2
          go_wp2
          go_roundw
          case rel => exact ⟨1, by omega, rfl, by have := HT1.out; rw [tk_at, ← HF.out] at this; rw [← tk_succ]; exact this, grownBy_two HG.out (grownBy_two (grown_alloc_drew _ _ _) HG1.out)⟩
          case measure => simp [intOf]
        · have d3 : ((T 0).1 == 3) = false := by simpa using h3
          have HF : Hid (freeS 0 (T 0) = T 0) := (by unfold freeS; rw [if_neg h3] : freeS 0 (T 0) = T 0)
          clear h3
          go_wp2
          go_region
          go_wp2
          go_roundw
          case rel => exact ⟨1, by omega, rfl, by rw [tk_same HF.out]; exact HTK.out.alloc_drew _, grownBy_two HG.out (grown_alloc_drew _ _ _)⟩
          case measure => simp [intOf]
      · have hd : ((1 : Nat) : Int) < 4 := by omega
        obtain ⟨c0, c1, c2⟩ := HTK.out.1 1 (by omega)
        rw [tk_at] at c0 c1 c2
        change wr.cell? ⟨b, 3, none⟩ = _ at c0
        change wr.cell? ⟨b, 4, none⟩ = _ at c1
        change wr.cell? ⟨b, 5, none⟩ = _ at c2
        have hok := HOK.out 1 (by omega)
        have hbw : b < wr.heap.size := HTK.out.lt
        have HO := Lib.hid hok
        clear hok
        by_cases h3 : (T 1).1 = 3
        · have d3 : ((T 1).1 == 3) = true := by simpa using h3
          have HF : Hid (freeS 1 (T 1) = nx (T 1) 6) := (by unfold freeS; rw [if_pos h3] : freeS 1 (T 1) = nx (T 1) 6)
          clear h3
          go_wp2
          go_region
          go_wp2_with fail
          refine (on_any b _ 1 (by omega) 6 (by omega) _ (HTK.out.alloc_drew _) (by rw [tk_at]; exact HO.out)).mono ?_
          rintro e1 w1 ⟨rfl, hT1, hg1⟩
          have HT1 := Lib.hid hT1; have HG1 := Lib.hid hg1
          clear hT1 hg1 c0 c1 c2
          go_wp2
          go_roundw
          case rel => exact ⟨2, by omega, rfl, by have := HT1.out; rw [tk_at, ← HF.out] at this; rw [← tk_succ]; exact this, grownBy_two HG.out (grownBy_two (grown_alloc_drew _ _ _) HG1.out)⟩
          case measure => simp [intOf]
        · have d3 : ((T 1).1 == 3) = false := by simpa using h3
          have HF : Hid (freeS 1 (T 1) = T 1) := (by unfold freeS; rw [if_neg h3] : freeS 1 (T 1) = T 1)
          clear h3
          go_wp2
          go_region
          go_wp2
          go_roundw
          case rel => exact ⟨2, by omega, rfl, by rw [tk_same HF.out]; exact HTK.out.alloc_drew _, grownBy_two HG.out (grown_alloc_drew _ _ _)⟩
          case measure => simp [intOf]
      · have hd : ((2 : Nat) : Int) < 4 := by omega
        obtain ⟨c0, c1, c2⟩ := HTK.out.1 2 (by omega)
        rw [tk_at] at c0 c1 c2
        change wr.cell? ⟨b, 6, none⟩ = _ at c0
        change wr.cell? ⟨b, 7, none⟩ = _ at c1
        change wr.cell? ⟨b, 8, none⟩ = _ at c2
        have hok := HOK.out 2 (by omega)
        have hbw : b < wr.heap.size := HTK.out.lt
        have HO := Lib.hid hok
        clear hok
        by_cases h3 : (T 2).1 = 3
        · have d3 : ((T 2).1 == 3) = true := by simpa using h3
          have HF : Hid (freeS 2 (T 2) = nx (T 2) 6) := (by unfold freeS; rw [if_pos h3] : freeS 2 (T 2) = nx (T 2) 6)
          clear h3
          go_wp2
          go_region
          go_wp2_with fail
          refine (on_any b _ 2 (by omega) 6 (by omega) _ (HTK.out.alloc_drew _) (by rw [tk_at]; exact HO.out)).mono ?_
          rintro e1 w1 ⟨rfl, hT1, hg1⟩
          have HT1 := Lib.hid hT1; have HG1 := Lib.hid hg1
          clear hT1 hg1 c0 c1 c2
          go_wp2
          go_roundw
          case rel => exact ⟨3, by omega, rfl, by have := HT1.out; rw [tk_at, ← HF.out] at this; rw [← tk_succ]; exact this, grownBy_two HG.out (grownBy_two (grown_alloc_drew _ _ _) HG1.out)⟩
          case measure => simp [intOf]
        · have d3 : ((T 2).1 == 3) = false := by simpa using h3
          have HF : Hid (freeS 2 (T 2) = T 2) := (by unfold freeS; rw [if_neg h3] : freeS 2 (T 2) = T 2)
          clear h3
          go_wp2
          go_region
          go_wp2
          go_roundw
          case rel => exact ⟨3, by omega, rfl, by rw [tk_same HF.out]; exact HTK.out.alloc_drew _, grownBy_two HG.out (grown_alloc_drew _ _ _)⟩
          case measure => simp [intOf]
      · have hd : ((3 : Nat) : Int) < 4 := by omega
        obtain ⟨c0, c1, c2⟩ := HTK.out.1 3 (by omega)
        rw [tk_at] at c0 c1 c2
        change wr.cell? ⟨b, 9, none⟩ = _ at c0
        change wr.cell? ⟨b, 10, none⟩ = _ at c1
        change wr.cell? ⟨b, 11, none⟩ = _ at c2
        have hok := HOK.out 3 (by omega)
        have hbw : b < wr.heap.size := HTK.out.lt
        have HO := Lib.hid hok
        clear hok
        by_cases h3 : (T 3).1 = 3
        · have d3 : ((T 3).1 == 3) = true := by simpa using h3
          have HF : Hid (freeS 3 (T 3) = nx (T 3) 6) := (by unfold freeS; rw [if_pos h3] : freeS 3 (T 3) = nx (T 3) 6)
          clear h3
          go_wp2
          go_region
          go_wp2_with fail
          refine (on_any b _ 3 (by omega) 6 (by omega) _ (HTK.out.alloc_drew _) (by rw [tk_at]; exact HO.out)).mono ?_
          rintro e1 w1 ⟨rfl, hT1, hg1⟩
          have HT1 := Lib.hid hT1; have HG1 := Lib.hid hg1
          clear hT1 hg1 c0 c1 c2
          go_wp2
          go_roundw
          case rel => exact ⟨4, by omega, rfl, by have := HT1.out; rw [tk_at, ← HF.out] at this; rw [← tk_succ]; exact this, grownBy_two HG.out (grownBy_two (grown_alloc_drew _ _ _) HG1.out)⟩
          case measure => simp [intOf]
        · have d3 : ((T 3).1 == 3) = false := by simpa using h3
          have HF : Hid (freeS 3 (T 3) = T 3) := (by unfold freeS; rw [if_neg h3] : freeS 3 (T 3) = T 3)
          clear h3
          go_wp2
          go_region
          go_wp2
          go_roundw
          case rel => exact ⟨4, by omega, rfl, by rw [tk_same HF.out]; exact HTK.out.alloc_drew _, grownBy_two HG.out (grown_alloc_drew _ _ _)⟩
          case measure => simp [intOf]
    · obtain rfl : k = 4 := by omega
      have HOK2 : Hid (∀ j, j < 4 → OkS (tk freeS T 4 j)) := (fun j hj => by
        unfold tk; rw [if_pos hj]; unfold freeS
        split
        · exact nx_ok (HOK.out j hj) (by omega)
        · exact HOK.out j hj : ∀ j, j < 4 → OkS (tk freeS T 4 j))
      generalize tk freeS T 4 = T2 at *
      rw [show ((4 : Nat) : Int) = 4 from rfl]
      go_wp2
      go_loopw [36] (fun i wr => ArmRel w b T2 U i wr) (fun i _ => U.length - (intOf i).toNat)
      case atStart => exact ⟨0, by omega, rfl, HTK.out, HG.out⟩
      case round =>
        obtain ⟨n, hn, rfl, hTk, hgw⟩ := hrel
        have HTA := Lib.hid hTk; have HGA := Lib.hid hgw
        by_cases hlt : n < U.length
        · have cu := hgw.cell (HC.out n hlt) (by simpa using hg1)
          have hgl : g < wr.heap.size := Nat.lt_of_lt_of_le hg2 hgw.size
          have hil : (n : Int) < U.length := by omega
          obtain ⟨u, hu⟩ : ∃ u, U.getD n 0 = u := ⟨_, rfl⟩
          have hu4 := HU4.out n hlt
          rw [hu] at cu hu4
          have HUU := Lib.hid hu
          clear hTk hgw hu
          by_cases h2 : n < 2
          · have d2 : decide ((n : Int) < 2) = true := decide_eq_true (by omega)
            go_wp2_with fail
            refine (on_any b _ u hu4 1 (by omega) _ HTA.out (armT_ok HOK2.out n _ hu4)).mono ?_
            rintro e1 w1 ⟨rfl, hT1, hg1⟩
            have HT1 := Lib.hid hT1; have HG1 := Lib.hid hg1
            clear hT1 hg1 cu
            go_wp2
            go_roundw
            case rel => exact ⟨n + 1, by omega, by go_num, by have := HT1.out; simp only [armT]; rw [if_pos h2, HUU.out]; exact this, grownBy_two HGA.out HG1.out⟩
            case measure => simp [intOf]; omega
          · have d2 : decide ((n : Int) < 2) = false := decide_eq_false (by omega)
            go_wp2_with fail
            refine (on_any b _ u hu4 2 (by omega) _ HTA.out (armT_ok HOK2.out n _ hu4)).mono ?_
            rintro e1 w1 ⟨rfl, hT1, hg1⟩
            have HT1 := Lib.hid hT1; have HG1 := Lib.hid hg1
            clear hT1 hg1 cu
            go_wp2
            go_roundw
            case rel => exact ⟨n + 1, by omega, by go_num, by have := HT1.out; simp only [armT]; rw [if_neg h2, HUU.out]; exact this, grownBy_two HGA.out HG1.out⟩
            case measure => simp [intOf]; omega
        · obtain rfl : n = U.length := by omega
          clear hTk hgw
          go_wp2
          exact bodyPost_ret (v := .tuple #[]) (by simp [results, Try.results24, go_sem]) rfl ⟨rfl, HTA.out, HGA.out⟩

end Go.Proofs.Ytfifckcjadbiiaa
