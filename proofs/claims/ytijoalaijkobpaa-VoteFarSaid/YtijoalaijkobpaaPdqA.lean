/- slices.pdqsortOrdered's helpers at int32: parting a range. -/
import Derived.Test.YtijoalaijkobpaaSort32
import Derived.Deep.CutBlock
namespace Go.Proofs.Ytijoalaijkobpaa
open Go.ChangeShapes Go.WideShapes Go.ChangeAt Go.RowKit
set_option linter.unusedVariables false

namespace S32
theorem set_reads {w : World} {b i j : Nat} {x y : Value} (hi : w.cell? ⟨b, i, none⟩ = some x) (hj : w.cell? ⟨b, j, none⟩ = some y) : (w.setCell ⟨b, i, none⟩ y).cell? ⟨b, j, none⟩ = some y := by
  by_cases e : i = j
  · subst e; exact World.cell?_setCell_same' _ _ _ (by rw [hi]; rfl)
  · rw [World.cell?_setCell_other _ _ _ _ (by intro z; injection z with _ z; exact e z)]; exact hj
/-- a range that is being parted: smaller ones in front, the others behind -/
structure Part (a e : Nat) (p : Int) (L M : List Int) (i j : Nat) : Prop where
  sw : Sw a e L M
  i1 : a + 1 ≤ i
  ij : i ≤ j + 1
  je : j < e
  pa : M.getD a 0 = p
  lt : ∀ k, a + 1 ≤ k → k < i → M.getD k 0 < p
  ge : ∀ k, j < k → k < e → p ≤ M.getD k 0
section
variable {a e : Nat} {p : Int} {L M : List Int} {i j : Nat}
theorem Part.len (h : Part a e p L M i j) : M.length = L.length := h.sw.len
theorem Part.incI (h : Part a e p L M i j) (hij : i ≤ j) (hx : M.getD i 0 < p) : Part a e p L M (i + 1) j :=
  ⟨h.sw, by have := h.i1; omega, by omega, h.je, h.pa, fun k h1 h2 => by
    by_cases q : k = i
    · subst q; exact hx
    · exact h.lt k h1 (by omega), h.ge⟩
theorem Part.decJ (h : Part a e p L M i j) (hij : i ≤ j) (hx : p ≤ M.getD j 0) : Part a e p L M i (j - 1) :=
  ⟨h.sw, h.i1, by have := h.i1; omega, by have := h.je; omega, h.pa, h.lt, fun k h1 h2 => by
    by_cases q : k = j
    · subst q; exact hx
    · exact h.ge k (by omega) h2⟩
theorem Part.swap (h : Part a e p L M i j) (he : e ≤ L.length) (hij : i ≤ j) (hx : p ≤ M.getD i 0) (hy : M.getD j 0 < p) : Part a e p L (swapL M i j) (i + 1) (j - 1) := by
  have hne : i ≠ j := by intro q; subst q; omega
  have i1 := h.i1
  have je := h.je
  have g := fun k => swapL_at M i j k (by rw [h.len]; omega) (by rw [h.len]; omega)
  refine ⟨h.sw.step i j (by omega) (by omega) (by omega) (by omega), by omega, by omega, by omega, ?_, fun k h1 h2 => ?_, fun k h1 h2 => ?_⟩
  · rw [g, if_neg (by omega), if_neg (by omega)]; exact h.pa
  · rw [g, if_neg (by omega)]
    split
    · exact hy
    · exact h.lt k h1 (by omega)
  · rw [g]
    split
    · exact hx
    · rw [if_neg (by omega)]; exact h.ge k (by omega) h2
theorem Part.start (hae : a < e) (he : e ≤ L.length) (q : Nat) (h1 : a ≤ q) (h2 : q < e) : Part a e (L.getD q 0) L (swapL L a q) (a + 1) (e - 1) :=
  ⟨Sw.refl.step a q (Nat.le_refl _) hae h1 h2, Nat.le_refl _, by omega, by omega, by
    rw [swapL_at _ _ _ _ (by omega) (by omega)]
    split
    · rename_i h; rw [h]
    · rw [if_pos rfl], fun k h1 h2 => by omega, fun k h1 h2 => by omega⟩
/-- behind a parting at m -/
structure Parted (a e m : Nat) (L M : List Int) : Prop where
  sw : Sw a e L M
  am : a ≤ m
  me : m < e
  lo : ∀ k, a ≤ k → k < m → M.getD k 0 ≤ M.getD m 0
  hi : ∀ k, m < k → k < e → M.getD m 0 ≤ M.getD k 0
theorem Part.fin (h : Part a e p L M i j) (he : e ≤ L.length) (hij : j < i) : Parted a e j L (swapL M j a) := by
  have i1 := h.i1
  have je := h.je
  have ij := h.ij
  have g := fun k => swapL_at M j a k (by rw [h.len]; omega) (by rw [h.len]; omega)
  have gj : (swapL M j a).getD j 0 = p := by
    rw [g]
    split
    · rename_i q; rw [q]; exact h.pa
    · rw [if_pos rfl]; exact h.pa
  refine ⟨h.sw.step j a (by omega) (by omega) (by omega) (by omega), by omega, je, fun k h1 h2 => ?_, fun k h1 h2 => ?_⟩
  · rw [gj, g]
    split
    · have := h.lt j (by omega) (by omega); omega
    · rw [if_neg (by omega)]
      have := h.lt k (by omega) (by omega); omega
  · rw [gj, g, if_neg (by omega), if_neg (by omega)]
    exact h.ge k (by omega) h2
end
def PRel (w0 : World) (b a e : Nat) (p : Int) (L : List Int) (x y : Value) (w : World) : Prop := ∃ (i j : Nat) (M : List Int), x = .int .i64 i ∧ y = .int .i64 j ∧ Row w0 w b M ∧ Part a e p L M i j
def PRel1 (w0 : World) (b a e j i0 : Nat) (p : Int) (L : List Int) (x : Value) (w : World) : Prop := ∃ (i : Nat) (M : List Int), i0 ≤ i ∧ x = .int .i64 i ∧ Row w0 w b M ∧ Part a e p L M i j
def PRel1e (w0 : World) (b a e j i0 : Nat) (p : Int) (L : List Int) (x : Value) (w : World) : Prop := ∃ (i : Nat) (M : List Int), i0 ≤ i ∧ x = .int .i64 i ∧ Row w0 w b M ∧ Part a e p L M i j ∧ (i ≤ j → p ≤ M.getD i 0)
def PRel2 (w0 : World) (b a e i : Nat) (p : Int) (L : List Int) (y : Value) (w : World) : Prop := ∃ (j : Nat) (M : List Int), y = .int .i64 j ∧ Row w0 w b M ∧ Part a e p L M i j ∧ (i ≤ j → p ≤ M.getD i 0)
def PRel2e (w0 : World) (b a e i : Nat) (p : Int) (L : List Int) (y : Value) (w : World) : Prop := ∃ (j : Nat) (M : List Int), y = .int .i64 j ∧ Row w0 w b M ∧ Part a e p L M i j ∧ (i ≤ j → p ≤ M.getD i 0 ∧ M.getD j 0 < p)
def PartPost (w0 : World) (b a e : Nat) (L : List Int) (r : Ending) (w : World) : Prop := ∃ (m : Nat) (f : Bool) (M : List Int), r = .returned (.tuple #[.int .i64 m, .bool f]) ∧ Row w0 w b M ∧ Parted a e m L M
def PRelE (w0 : World) (b a e : Nat) (p : Int) (L : List Int) (x y : Value) (w : World) : Prop := ∃ (i j : Nat) (M : List Int), x = .int .i64 i ∧ y = .int .i64 j ∧ Row w0 w b M ∧ Part a e p L M i j ∧ j < i
set_option maxHeartbeats 8000000 in
set_option maxRecDepth 100000 in
theorem partition_is (b cap a e q : Nat) (L : List Int) (w : World) (hL : L.length ≤ 64) (h : CellsAt w b (vals L)) (hae : a < e) (he : e ≤ L.length) (h1 : a ≤ q) (h2 : q < e) :
    Calls Try.prog 51 #[.slice (some ⟨b, 0, none⟩) L.length cap, .int .i64 a, .int .i64 e, .int .i64 q] w (PartPost w b a e L) := by
  have ca := val_cell h a (by omega)
  have cq := val_cell h q (by omega)
  have hff := h.2.1
  have hfb := h.lt
  have HS := Lib.hid (Row.start h)
  have HP0 := Lib.hid (Part.start hae he q h1 h2)
  obtain ⟨p, hp⟩ : ∃ p, L.getD q 0 = p := ⟨_, rfl⟩
  obtain ⟨x, hx⟩ : ∃ x, L.getD a 0 = x := ⟨_, rfl⟩
  rw [hp] at cq HP0
  rw [hx] at ca
  have HP := Lib.hid hp; have HX := Lib.hid hx
  obtain ⟨j0, hj0⟩ : ∃ j0 : Nat, j0 = e - 1 := ⟨_, rfl⟩
  rw [← hj0] at HP0
  have hje : (e : Int) - 1 = (j0 : Int) := by omega
  have g1 : (a : Int) < (L.length : Int) := by omega
  have g2 : (q : Int) < (L.length : Int) := by omega
  have HJE := Lib.hid hje
  have cz := set_reads ca cq
  clear h hp hx hje
  go_enter Try.func51, Try.ntmps51
  go_wp2
  go_region
  have HR0 := Lib.hid ((HS.out.set2 a q (by omega) (by omega) x p HX.out HP.out).drew)
  generalize ((w.setCell ⟨b, a, none⟩ (.int .i32 p)).setCell ⟨b, q, none⟩ (.int .i32 x)).drew = w1 at *
  clear ca cq hff hfb HS
  go_upto_block 0 with (fail)
  rw [HJE.out]
  obtain ⟨i, hi⟩ : ∃ i, a + 1 = i := ⟨_, rfl⟩
  obtain ⟨j, hj⟩ : ∃ j, j0 = j := ⟨_, rfl⟩
  obtain ⟨M, hM⟩ : ∃ M, swapL L a q = M := ⟨_, rfl⟩
  rw [hi, hj, hM] at HP0
  rw [hM] at HR0
  have hic : (a : Int) + 1 = (i : Int) := by omega
  rw [hic, hj]
  have HR := HR0; have HPT := HP0
  clear hi hj hM hic HR0 HP0 HX HP HJE hj0
  go_upto_block 0 with (fail)
  go_cut [10] (fun x wx => PRel1e w b a e j i p L x wx)
  case first =>
    go_wp2_with fail
    go_loopw [10] (fun x wx => PRel1 w b a e j i p L x wx) (fun x _ => e + 1 - (intOf x).toNat)
    case atStart => exact ⟨i, M, Nat.le_refl _, rfl, HR.out, HPT.out⟩
    case round =>
      obtain ⟨i, M, hi0, rfl, hR, hP⟩ := hrel
      clear HR HPT
      have HR := Lib.hid hR; have HPT := Lib.hid hP
      have hi1 := hP.i1; have hij := hP.ij; have hje := hP.je; have hml := hP.len
      have HML := Lib.hid hml
      clear hR hP hml
      by_cases hlt : i ≤ j
      · have c1 := val_cell HR.out.c i (by have := HML.out; omega)
        have c2 := val_cell HR.out.c a (by have := HML.out; omega)
        rw [HPT.out.pa] at c2
        obtain ⟨x, hx⟩ : ∃ x, M.getD i 0 = x := ⟨_, rfl⟩
        rw [hx] at c1
        have HX := Lib.hid hx
        have g5 : (i : Int) < (L.length : Int) := by omega
        clear hx
        by_cases hxp : x < p
        · go_wp2
          go_quiet ((go_at_call 49; exact quietL (less x p _)))
          go_wp2
          go_round
          case rel => exact ⟨i + 1, M, by omega, by go_num, HR.out.drewN _, HPT.out.incI hlt (by rw [HX.out]; exact hxp)⟩
          case measure => simp [intOf]; omega
        · go_wp2
          go_quiet ((go_at_call 49; exact quietL (less x p _)))
          go_wp2
          go_meet
          exact ⟨i, M, hi0, rfl, HR.out.drewN _, HPT.out, fun _ => by rw [HX.out]; omega⟩
      · go_wp2
        go_region
        go_wp2
        go_meet
        exact ⟨i, M, hi0, rfl, HR.out.drew, HPT.out, fun h => absurd h hlt⟩
  case rest =>
    obtain ⟨i, M, hi0, rfl, hR, hP, hE⟩ := hcut
    clear HR HPT
    have HR := Lib.hid hR; have HPT := Lib.hid hP; have HE := Lib.hid hE
    have hi1 := hP.i1; have hij := hP.ij; have hje := hP.je
    clear hR hP hE
    go_upto_block 2 with (fail)
    go_cut [11] (fun y wx => PRel2e w b a e i p L y wx)
    case first =>
      go_wp2_with fail
      go_loopw [11] (fun y wx => PRel2 w b a e i p L y wx) (fun y _ => (intOf y).toNat)
      case atStart => exact ⟨j, M, rfl, HR.out, HPT.out, HE.out⟩
      case round =>
        obtain ⟨j, M, rfl, hR, hP, hE⟩ := hrel
        clear HR HPT HE
        have HR := Lib.hid hR; have HPT := Lib.hid hP; have HE := Lib.hid hE
        have hi1 := hP.i1; have hij := hP.ij; have hje := hP.je; have hml := hP.len
        have HML := Lib.hid hml
        clear hR hP hE hml
        by_cases hlt : i ≤ j
        · have c1 := val_cell HR.out.c j (by have := HML.out; omega)
          have c2 := val_cell HR.out.c a (by have := HML.out; omega)
          rw [HPT.out.pa] at c2
          obtain ⟨x, hx⟩ : ∃ x, M.getD j 0 = x := ⟨_, rfl⟩
          rw [hx] at c1
          have HX := Lib.hid hx
          have g5 : (j : Int) < (L.length : Int) := by omega
          clear hx
          by_cases hxp : x < p
          · have hd : decide (x < p) = true := decide_eq_true hxp
            go_wp2
            go_quiet ((go_at_call 49; exact quietL (less x p _)))
            go_wp2
            go_meet
            exact ⟨j, M, rfl, HR.out.drewN _, HPT.out, fun h => ⟨HE.out h, by rw [HX.out]; exact hxp⟩⟩
          · have hd : decide (x < p) = false := decide_eq_false hxp
            go_wp2
            go_quiet ((go_at_call 49; exact quietL (less x p _)))
            go_wp2
            go_round
            case rel => exact ⟨j - 1, M, by first | go_num | (congr 1; omega), HR.out.drewN _, HPT.out.decJ hlt (by rw [HX.out]; omega), fun h => HE.out hlt⟩
            case measure => simp [intOf]; omega
        · go_wp2
          go_region
          go_wp2
          go_meet
          exact ⟨j, M, rfl, HR.out.drew, HPT.out, fun h => absurd h hlt⟩
    case rest =>
      obtain ⟨j, M, rfl, hR, hP, hE⟩ := hcut
      clear HR HPT HE
      have HR := Lib.hid hR; have HPT := Lib.hid hP; have HE := Lib.hid hE
      have hi1 := hP.i1; have hij := hP.ij; have hje := hP.je; have hml := hP.len
      have HML := Lib.hid hml
      clear hR hP hE hml
      by_cases hlt : j < i
      · have c1 := val_cell HR.out.c j (by have := HML.out; omega)
        have c2 := val_cell HR.out.c a (by have := HML.out; omega)
        rw [HPT.out.pa] at c2
        obtain ⟨y, hy⟩ : ∃ y, M.getD j 0 = y := ⟨_, rfl⟩
        rw [hy] at c1
        have HY := Lib.hid hy
        have cz := set_reads c1 c2
        have hff := HR.out.c.2.1
        have hfb := HR.out.c.lt
        have g5 : (j : Int) < (L.length : Int) := by omega
        clear hy
        go_wp2
        go_region
        go_wp2
        go_ret2
        exact ⟨j, true, swapL M j a, rfl, by first | exact (HR.out.set2 j a (by have := HML.out; omega) (by have := HML.out; omega) y p HY.out HPT.out.pa).drew | exact HR.out.set2 j a (by have := HML.out; omega) (by have := HML.out; omega) y p HY.out HPT.out.pa, HPT.out.fin he hlt⟩
      · have hlt' : i ≤ j := by omega
        have c1 := val_cell HR.out.c i (by have := HML.out; omega)
        have c2 := val_cell HR.out.c j (by have := HML.out; omega)
        obtain ⟨x, hx⟩ : ∃ x, M.getD i 0 = x := ⟨_, rfl⟩
        obtain ⟨y, hy⟩ : ∃ y, M.getD j 0 = y := ⟨_, rfl⟩
        rw [hx] at c1
        rw [hy] at c2
        have HX := Lib.hid hx; have HY := Lib.hid hy
        have cz := set_reads c1 c2
        have hff := HR.out.c.2.1
        have hfb := HR.out.c.lt
        have g5 : (j : Int) < (L.length : Int) := by omega
        have g6 : (i : Int) < (L.length : Int) := by omega
        have hne : i ≠ j := by intro q; subst q; have := HE.out (Nat.le_refl _); omega
        clear hx hy
        go_wp2
        go_region
        go_upto_block 4 with (fail)
        have HR' : Hid (Row w _ b (swapL M i j)) := (by first | exact (HR.out.set2 i j (by have := HML.out; omega) (by have := HML.out; omega) x y HX.out HY.out).drew | exact HR.out.set2 i j (by have := HML.out; omega) (by have := HML.out; omega) x y HX.out HY.out : Row w _ b (swapL M i j))
        have HPT' := Lib.hid (HPT.out.swap he hlt' (HE.out hlt').1 (HE.out hlt').2)
        clear HR HPT HE c1 c2 cz hff hfb HX HY
        go_cut [10, 11] (fun x y wx => PRelE w b a e p L x y wx)
        case first =>
          go_wp2_with fail
          go_loopw [10, 11] (fun x y wx => PRel w b a e p L x y wx) (fun x _ _ => e + 1 - (intOf x).toNat)
          case atStart => exact ⟨i + 1, j - 1, swapL M i j, by go_num, by first | go_num | (congr 1; omega), HR'.out, HPT'.out⟩
          case round =>
            obtain ⟨i, j, M, rfl, rfl, hR, hP⟩ := hrel
            have hin := hP.i1; have hjn := hP.je
            clear HR' HPT' HML
            have HR := Lib.hid hR; have HPT := Lib.hid hP
            clear hR hP
            have hst : i ≤ i := Nat.le_refl _
            go_upto_block 6 with (fail)
            go_cut [10] (fun x wx => PRel1e w b a e j i p L x wx)
            case first =>
              go_wp2_with fail
              go_loopw [10] (fun x wx => PRel1 w b a e j i p L x wx) (fun x _ => e + 1 - (intOf x).toNat)
              case atStart => exact ⟨i, M, Nat.le_refl _, rfl, HR.out, HPT.out⟩
              case round =>
                obtain ⟨i, M, hi0, rfl, hR, hP⟩ := hrel
                clear HR HPT
                have HR := Lib.hid hR; have HPT := Lib.hid hP
                have hi1 := hP.i1; have hij := hP.ij; have hje := hP.je; have hml := hP.len
                have HML := Lib.hid hml
                clear hR hP hml
                by_cases hlt : i ≤ j
                · have c1 := val_cell HR.out.c i (by have := HML.out; omega)
                  have c2 := val_cell HR.out.c a (by have := HML.out; omega)
                  rw [HPT.out.pa] at c2
                  obtain ⟨x, hx⟩ : ∃ x, M.getD i 0 = x := ⟨_, rfl⟩
                  rw [hx] at c1
                  have HX := Lib.hid hx
                  have g5 : (i : Int) < (L.length : Int) := by omega
                  clear hx
                  by_cases hxp : x < p
                  · go_wp2
                    go_quiet ((go_at_call 49; exact quietL (less x p _)))
                    go_wp2
                    go_round
                    case rel => exact ⟨i + 1, M, by omega, by go_num, HR.out.drewN _, HPT.out.incI hlt (by rw [HX.out]; exact hxp)⟩
                    case measure => simp [intOf]; omega
                  · go_wp2
                    go_quiet ((go_at_call 49; exact quietL (less x p _)))
                    go_wp2
                    go_meet
                    exact ⟨i, M, hi0, rfl, HR.out.drewN _, HPT.out, fun _ => by rw [HX.out]; omega⟩
                · go_wp2
                  go_region
                  go_wp2
                  go_meet
                  exact ⟨i, M, hi0, rfl, HR.out.drew, HPT.out, fun h => absurd h hlt⟩
            case rest =>
              obtain ⟨i, M, hi0, rfl, hR, hP, hE⟩ := hcut
              clear HR HPT
              have HR := Lib.hid hR; have HPT := Lib.hid hP; have HE := Lib.hid hE
              have hi1 := hP.i1; have hij := hP.ij; have hje := hP.je
              clear hR hP hE
              go_upto_block 8 with (fail)
              go_cut [11] (fun y wx => PRel2e w b a e i p L y wx)
              case first =>
                go_wp2_with fail
                go_loopw [11] (fun y wx => PRel2 w b a e i p L y wx) (fun y _ => (intOf y).toNat)
                case atStart => exact ⟨j, M, rfl, HR.out, HPT.out, HE.out⟩
                case round =>
                  obtain ⟨j, M, rfl, hR, hP, hE⟩ := hrel
                  clear HR HPT HE
                  have HR := Lib.hid hR; have HPT := Lib.hid hP; have HE := Lib.hid hE
                  have hi1 := hP.i1; have hij := hP.ij; have hje := hP.je; have hml := hP.len
                  have HML := Lib.hid hml
                  clear hR hP hE hml
                  by_cases hlt : i ≤ j
                  · have c1 := val_cell HR.out.c j (by have := HML.out; omega)
                    have c2 := val_cell HR.out.c a (by have := HML.out; omega)
                    rw [HPT.out.pa] at c2
                    obtain ⟨x, hx⟩ : ∃ x, M.getD j 0 = x := ⟨_, rfl⟩
                    rw [hx] at c1
                    have HX := Lib.hid hx
                    have g5 : (j : Int) < (L.length : Int) := by omega
                    clear hx
                    by_cases hxp : x < p
                    · have hd : decide (x < p) = true := decide_eq_true hxp
                      go_wp2
                      go_quiet ((go_at_call 49; exact quietL (less x p _)))
                      go_wp2
                      go_meet
                      exact ⟨j, M, rfl, HR.out.drewN _, HPT.out, fun h => ⟨HE.out h, by rw [HX.out]; exact hxp⟩⟩
                    · have hd : decide (x < p) = false := decide_eq_false hxp
                      go_wp2
                      go_quiet ((go_at_call 49; exact quietL (less x p _)))
                      go_wp2
                      go_round
                      case rel => exact ⟨j - 1, M, by first | go_num | (congr 1; omega), HR.out.drewN _, HPT.out.decJ hlt (by rw [HX.out]; omega), fun h => HE.out hlt⟩
                      case measure => simp [intOf]; omega
                  · go_wp2
                    go_region
                    go_wp2
                    go_meet
                    exact ⟨j, M, rfl, HR.out.drew, HPT.out, fun h => absurd h hlt⟩
              case rest =>
                obtain ⟨j, M, rfl, hR, hP, hE⟩ := hcut
                clear HR HPT HE
                have HR := Lib.hid hR; have HPT := Lib.hid hP; have HE := Lib.hid hE
                have hi1 := hP.i1; have hij := hP.ij; have hje := hP.je; have hml := hP.len
                have HML := Lib.hid hml
                clear hR hP hE hml
                by_cases hlt : j < i
                · go_wp2
                  go_meet
                  exact ⟨i, j, M, rfl, rfl, HR.out, HPT.out, hlt⟩
                · have hlt' : i ≤ j := by omega
                  have c1 := val_cell HR.out.c i (by have := HML.out; omega)
                  have c2 := val_cell HR.out.c j (by have := HML.out; omega)
                  obtain ⟨x, hx⟩ : ∃ x, M.getD i 0 = x := ⟨_, rfl⟩
                  obtain ⟨y, hy⟩ : ∃ y, M.getD j 0 = y := ⟨_, rfl⟩
                  rw [hx] at c1
                  rw [hy] at c2
                  have HX := Lib.hid hx; have HY := Lib.hid hy
                  have cz := set_reads c1 c2
                  have hff := HR.out.c.2.1
                  have hfb := HR.out.c.lt
                  have g5 : (j : Int) < (L.length : Int) := by omega
                  have g6 : (i : Int) < (L.length : Int) := by omega
                  have hne : i ≠ j := by intro q; subst q; have := HE.out (Nat.le_refl _); omega
                  clear hx hy
                  go_wp2
                  go_region
                  go_wp2
                  go_round
                  case rel => exact ⟨i + 1, j - 1, swapL M i j, by go_num, by first | go_num | (congr 1; omega), by first | exact (HR.out.set2 i j (by have := HML.out; omega) (by have := HML.out; omega) x y HX.out HY.out).drew | exact HR.out.set2 i j (by have := HML.out; omega) (by have := HML.out; omega) x y HX.out HY.out, HPT.out.swap he hlt' (HE.out hlt').1 (HE.out hlt').2⟩
                  case measure => simp [intOf]; omega
        case rest =>
          obtain ⟨i, j, M, rfl, rfl, hR, hP, hlt⟩ := hcut
          clear HR' HPT'
          have HR := Lib.hid hR; have HPT := Lib.hid hP
          have hi1 := hP.i1; have hij := hP.ij; have hje := hP.je; have hml := hP.len
          clear HML
          have HML := Lib.hid hml
          clear hR hP hml
          have c1 := val_cell HR.out.c j (by have := HML.out; omega)
          have c2 := val_cell HR.out.c a (by have := HML.out; omega)
          rw [HPT.out.pa] at c2
          obtain ⟨y, hy⟩ : ∃ y, M.getD j 0 = y := ⟨_, rfl⟩
          rw [hy] at c1
          have HY := Lib.hid hy
          have cz := set_reads c1 c2
          have hff := HR.out.c.2.1
          have hfb := HR.out.c.lt
          have g5 : (j : Int) < (L.length : Int) := by omega
          clear hy
          go_wp2
          go_region
          go_wp2
          go_ret2
          exact ⟨j, false, swapL M j a, rfl, by first | exact (HR.out.set2 j a (by have := HML.out; omega) (by have := HML.out; omega) y p HY.out HPT.out.pa).drew | exact HR.out.set2 j a (by have := HML.out; omega) (by have := HML.out; omega) y p HY.out HPT.out.pa, HPT.out.fin he hlt⟩

end S32

end Go.Proofs.Ytijoalaijkobpaa
