/- slices.pdqsortOrdered's helpers at int32: choosing a pivot, breaking patterns, turning a range. -/
import Derived.Test.YtijoalaijkobpaaPdqA
import Derived.Sort.Row
import Derived.Laws.Bits64
import Derived.Laws.Bits64b
namespace Go.Proofs.Ytijoalaijkobpaa
open Go.ChangeShapes Go.WideShapes Go.ChangeAt Go.RowKit
open Go.Sort (setCell_eq mapBlock_mapBlock)
set_option linter.unusedVariables false

namespace S32
/-- a row of numbers that stays, and a counter that turns -/
structure RowC (w0 w : World) (b p : Nat) (L : List Int) (n : Nat) : Prop where
  c : CellsAt w b (vals L)
  s : CellsAt w p [.int .i64 n]
  g : w0.grownBy w (some p)
theorem RowC.trans {w0 w w' : World} {b p n m : Nat} {L : List Int} (h : RowC w0 w b p L n) (k : RowC w w' b p L m) : RowC w0 w' b p L m :=
  ⟨k.c, k.s, h.g.andThen k.g (fun j e => by cases e; exact .inr rfl)⟩
theorem RowC.drewN {w0 w : World} {b p n : Nat} {L : List Int} (h : RowC w0 w b p L n) (k : Nat) : RowC w0 (w.drewN k) b p L n := ⟨h.c.drewN k, h.s.drewN k, ⟨h.g.os, h.g.tape, h.g.output, h.g.size, h.g.block⟩⟩
theorem RowC.drew {w0 w : World} {b p n : Nat} {L : List Int} (h : RowC w0 w b p L n) : RowC w0 w.drew b p L n := ⟨h.c.drew, h.s.drew, ⟨h.g.os, h.g.tape, h.g.output, h.g.size, h.g.block⟩⟩
theorem RowC.up {w0 w : World} {b p n : Nat} {L : List Int} (h : RowC w0 w b p L n) (hbp : b ≠ p) (m : Nat) : RowC w0 (w.setCell ⟨p, 0, none⟩ (.int .i64 m)) b p L m :=
  ⟨h.c.other hbp 0 _, h.s.set_ 0 (by simp) _, h.g.andThen (grown_set w p 0 _) (fun _ e => by cases e; exact .inr rfl)⟩
theorem RowC.start {w : World} {b p n : Nat} {L : List Int} (h : CellsAt w b (vals L)) (k : CellsAt w p [.int .i64 n]) : RowC w w b p L n := ⟨h, k, World.grownBy.refl _ _⟩
def OrdPost (w0 : World) (b p x y n : Nat) (L : List Int) (e : Ending) (w : World) : Prop := ∃ x' y' n' : Nat, e = .returned (.tuple #[.int .i64 x', .int .i64 y']) ∧ (x' = x ∧ y' = y ∨ x' = y ∧ y' = x) ∧ n' ≤ n + 1 ∧ RowC w0 w b p L n'
set_option maxHeartbeats 8000000 in
set_option maxRecDepth 100000 in
theorem order2_is (b cap p x y n : Nat) (L : List Int) (w : World) (hL : L.length ≤ 64) (h : CellsAt w b (vals L)) (hs : CellsAt w p [.int .i64 n]) (hn : n ≤ 100) (hbp : b ≠ p) (hx : x < L.length) (hy : y < L.length) :
    Calls Try.prog 60 #[.slice (some ⟨b, 0, none⟩) L.length cap, .int .i64 x, .int .i64 y, .pointer (some ⟨p, 0, none⟩)] w (OrdPost w b p x y n L) := by
  have c1 := val_cell h x (by omega)
  have c2 := val_cell h y (by omega)
  have c3 := hs.at_ 0 (v := .int .i64 n) rfl
  have HS := Lib.hid (RowC.start h hs)
  have hff := hs.2.1
  have hfb := hs.lt
  obtain ⟨u, hu⟩ : ∃ u, L.getD x 0 = u := ⟨_, rfl⟩
  obtain ⟨v, hv⟩ : ∃ v, L.getD y 0 = v := ⟨_, rfl⟩
  rw [hu] at c1
  rw [hv] at c2
  have HBP := Lib.hid hbp
  have g1 : (x : Int) < (L.length : Int) := by omega
  have g2 : (y : Int) < (L.length : Int) := by omega
  clear h hs hu hv hbp
  by_cases hxy : v < u
  · have hd : decide (v < u) = true := decide_eq_true hxy
    go_enter Try.func60, Try.ntmps60
    go_wp2
    go_quiet ((go_at_call 49; exact quietL (less v u _)))
    go_wp2
    go_ret2
    refine ⟨y, x, n + 1, rfl, .inr ⟨rfl, rfl⟩, Nat.le_refl _, ?_⟩
    first | exact ((HS.out.drewN _).up HBP.out (n + 1)).drew | exact (HS.out.drewN _).up HBP.out (n + 1)
  · have hd : decide (v < u) = false := decide_eq_false hxy
    go_enter Try.func60, Try.ntmps60
    go_wp2
    go_quiet ((go_at_call 49; exact quietL (less v u _)))
    go_wp2
    go_ret2
    exact ⟨x, y, n, rfl, .inl ⟨rfl, rfl⟩, Nat.le_succ _, HS.out.drewN _⟩
end S32

namespace S32
def MedPost (w0 : World) (b p n : Nat) (L : List Int) (P : Nat → Prop) (e : Ending) (w : World) : Prop := ∃ r n' : Nat, e = .returned (.int .i64 r) ∧ P r ∧ n' ≤ n + 3 ∧ RowC w0 w b p L n'
set_option maxHeartbeats 8000000 in
set_option maxRecDepth 100000 in
theorem median_is (b cap p x y z n : Nat) (L : List Int) (w : World) (hL : L.length ≤ 64) (h : CellsAt w b (vals L)) (hs : CellsAt w p [.int .i64 n]) (hn : n ≤ 90) (hbp : b ≠ p) (hx : x < L.length) (hy : y < L.length) (hz : z < L.length) :
    Calls Try.prog 58 #[.slice (some ⟨b, 0, none⟩) L.length cap, .int .i64 x, .int .i64 y, .int .i64 z, .pointer (some ⟨p, 0, none⟩)] w (MedPost w b p n L (fun r => r = x ∨ r = y ∨ r = z)) := by
  have HS := Lib.hid (RowC.start h hs)
  have HBP := Lib.hid hbp
  clear h hs hbp
  go_enter Try.func58, Try.ntmps58
  go_wp2_with fail
  refine (order2_is b cap p x y n L _ hL HS.out.c HS.out.s (by omega) HBP.out hx hy).mono ?_
  rintro e1 w1 ⟨x1, y1, n1, rfl, h1, hn1, hR1⟩
  have HR := Lib.hid (HS.out.trans hR1)
  have H1 := Lib.hid h1
  clear hR1 h1 HS
  go_wp2_with fail
  refine (order2_is b cap p y1 z n1 L _ hL HR.out.c HR.out.s (by omega) HBP.out (by have := H1.out; omega) hz).mono ?_
  rintro e2 w2 ⟨y2, z2, n2, rfl, h2, hn2, hR2⟩
  have HR2 := Lib.hid (HR.out.trans hR2)
  have H2 := Lib.hid h2
  clear hR2 h2 HR
  go_wp2_with fail
  refine (order2_is b cap p x1 y2 n2 L _ hL HR2.out.c HR2.out.s (by omega) HBP.out (by have := H1.out; omega) (by have := H1.out; have := H2.out; omega)).mono ?_
  rintro e3 w3 ⟨x3, y3, n3, rfl, h3, hn3, hR3⟩
  have HR3 := Lib.hid (HR2.out.trans hR3)
  have H3 := Lib.hid h3
  clear hR3 h3 HR2
  go_wp2
  go_ret
  exact ⟨y3, n3, rfl, by have := H1.out; have := H2.out; have := H3.out; omega, by omega, HR3.out⟩
end S32

namespace S32
set_option maxHeartbeats 8000000 in
set_option maxRecDepth 100000 in
theorem medianAdj_is (b cap p y n : Nat) (L : List Int) (w : World) (hL : L.length ≤ 64) (h : CellsAt w b (vals L)) (hs : CellsAt w p [.int .i64 n]) (hn : n ≤ 90) (hbp : b ≠ p) (hy0 : 1 ≤ y) (hy : y + 1 < L.length) :
    Calls Try.prog 57 #[.slice (some ⟨b, 0, none⟩) L.length cap, .int .i64 y, .pointer (some ⟨p, 0, none⟩)] w (MedPost w b p n L (fun r => y ≤ r + 1 ∧ r ≤ y + 1)) := by
  have HS := Lib.hid (RowC.start h hs)
  have HBP := Lib.hid hbp
  obtain ⟨x, hx⟩ : ∃ x, y = x + 1 := ⟨y - 1, by omega⟩
  obtain ⟨z, hz⟩ : ∃ z, z = y + 1 := ⟨_, rfl⟩
  have HX := Lib.hid (show (y : Int) - 1 = (x : Int) by omega)
  have HZ := Lib.hid (show (y : Int) + 1 = (z : Int) by omega)
  have HX' := Lib.hid hx; have HZ' := Lib.hid hz
  clear h hs hbp hx hz
  go_enter Try.func57, Try.ntmps57
  go_wp2_with fail
  rw [HX.out, HZ.out]
  refine (median_is b cap p x y z n L _ hL HS.out.c HS.out.s (by omega) HBP.out (by have := HX'.out; omega) (by omega) (by have := HZ'.out; omega)).mono ?_
  rintro e1 w1 ⟨r, n1, rfl, h1, hn1, hR1⟩
  have HR := Lib.hid (HS.out.trans hR1)
  have H1 := Lib.hid h1
  clear hR1 h1 HS
  go_wp2
  go_ret
  exact ⟨r, n1, rfl, by have := H1.out; have := HX'.out; have := HZ'.out; omega, by omega, HR.out⟩
end S32

namespace S32
def RevRel (w0 : World) (b lo hi : Nat) (L : List Int) (x y : Value) (w : World) : Prop := ∃ (i j : Nat) (M : List Int), lo ≤ i ∧ i ≤ hi ∧ j < hi ∧ x = .int .i64 i ∧ y = .int .i64 j ∧ Row w0 w b M ∧ Sw lo hi L M
def SwPost (w0 : World) (b lo hi : Nat) (L : List Int) (e : Ending) (w : World) : Prop := e = .returned (.tuple #[]) ∧ ∃ M, Row w0 w b M ∧ Sw lo hi L M
set_option maxHeartbeats 8000000 in
set_option maxRecDepth 100000 in
theorem reverse_is (b cap lo hi : Nat) (L : List Int) (w : World) (hL : L.length ≤ 64) (h : CellsAt w b (vals L)) (hlh : lo < hi) (hhi : hi ≤ L.length) :
    Calls Try.prog 47 #[.slice (some ⟨b, 0, none⟩) L.length cap, .int .i64 lo, .int .i64 hi] w (SwPost w b lo hi L) := by
  have HS := Lib.hid (Row.start h)
  obtain ⟨j, hj⟩ : ∃ j, hi = j + 1 := ⟨hi - 1, by omega⟩
  have HJ := Lib.hid (show (hi : Int) - 1 = (j : Int) by omega)
  have HJ' := Lib.hid hj
  clear h hj
  go_enter Try.func47, Try.ntmps47
  go_upto_region 2 with (fail)
  rw [HJ.out]
  go_wp2
  go_loopw [6, 7] (fun x y wr => RevRel w b lo hi L x y wr) (fun x _ _ => hi - (intOf x).toNat)
  case atStart => exact ⟨lo, j, L, Nat.le_refl _, by omega, by have := HJ'.out; omega, rfl, rfl, HS.out, .refl⟩
  case round =>
    obtain ⟨i, j, M, hi1, hi2, hj1, rfl, rfl, hR, hS⟩ := hrel
    clear HS HJ HJ'
    have HR := Lib.hid hR; have HSW := Lib.hid hS
    have hml := hS.len
    have HML := Lib.hid hml
    clear hR hS hml
    by_cases hlt : i < j
    · have c1 := val_cell HR.out.c i (by have := HML.out; omega)
      have c2 := val_cell HR.out.c j (by have := HML.out; omega)
      obtain ⟨x, hx⟩ : ∃ x, M.getD i 0 = x := ⟨_, rfl⟩
      obtain ⟨y, hy⟩ : ∃ y, M.getD j 0 = y := ⟨_, rfl⟩
      rw [hx] at c1
      rw [hy] at c2
      have HX := Lib.hid hx; have HY := Lib.hid hy
      have cz := set_reads c1 c2
      have hff := HR.out.c.2.1
      have hfb := HR.out.c.lt
      have g5 : (j : Int) < (L.length : Int) := by omega
      have g6 : (i : Int) < (L.length : Int) := by omega
      clear hx hy
      go_wp2
      go_region
      go_wp2
      go_round
      case rel => exact ⟨i + 1, j - 1, swapL M i j, by omega, by omega, by omega, by go_num, by first | go_num | (congr 1; omega), by first | exact (HR.out.set2 i j (by have := HML.out; omega) (by have := HML.out; omega) x y HX.out HY.out).drew | exact HR.out.set2 i j (by have := HML.out; omega) (by have := HML.out; omega) x y HX.out HY.out, HSW.out.step i j (by omega) (by omega) (by omega) (by omega)⟩
      case measure => first | (simp [intOf]; done) | (simp [intOf]; omega)
    · go_wp2
      go_end0
      exact ⟨rfl, M, HR.out, HSW.out⟩
end S32

namespace S32
def PivPost (w0 : World) (b lo hi : Nat) (L : List Int) (e : Ending) (w : World) : Prop := ∃ (r : Nat) (t : Int), e = .returned (.tuple #[.int .i64 r, .int .i64 t]) ∧ lo ≤ r ∧ r < hi ∧ Row w0 w b L
set_option maxHeartbeats 8000000 in
set_option maxRecDepth 100000 in
theorem choose_is (b cap lo hi : Nat) (L : List Int) (w : World) (hL : L.length ≤ 64) (h : CellsAt w b (vals L)) (hlh : lo + 12 < hi) (hhi : hi ≤ L.length) :
    Calls Try.prog 46 #[.slice (some ⟨b, 0, none⟩) L.length cap, .int .i64 lo, .int .i64 hi] w (PivPost w b lo hi L) := by
  have HS := Lib.hid h
  obtain ⟨l, hl⟩ : ∃ l, hi = lo + l := ⟨hi - lo, by omega⟩
  have HLI := Lib.hid (show (hi : Int) - (lo : Int) = (l : Int) by omega)
  have HL := Lib.hid hl
  have l12 : 12 < l := by omega
  have l64 : l ≤ 64 := by omega
  clear h hl
  go_enter Try.func46, Try.ntmps46
  go_upto_region 2 with (fail)
  rw [HLI.out]
  obtain ⟨i, hi0⟩ : ∃ i, i = lo + l / 4 := ⟨_, rfl⟩
  obtain ⟨j, hj0⟩ : ∃ j, j = lo + l / 4 * 2 := ⟨_, rfl⟩
  obtain ⟨k, hk0⟩ : ∃ k, k = lo + l / 4 * 3 := ⟨_, rfl⟩
  have HII := Lib.hid (show (lo : Int) + (l : Int) / 4 = (i : Int) by omega)
  have HJJ := Lib.hid (show (lo : Int) + (l : Int) / 4 * 2 = (j : Int) by omega)
  have HKK := Lib.hid (show (lo : Int) + (l : Int) / 4 * 3 = (k : Int) by omega)
  have LB := Lib.hid (show lo + 2 ≤ i ∧ i + 2 ≤ j ∧ j + 2 ≤ k ∧ k + 2 ≤ hi by have := HL.out; omega)
  clear hi0 hj0 hk0
  go_upto_region 7 with (fail)
  rw [HII.out, HJJ.out, HKK.out]
  have HR : Hid (RowC (w.alloc (Obj.cells #[Value.int IntKind.i64 0] 3)) (w.alloc (Obj.cells #[Value.int IntKind.i64 0] 3)) b w.heap.size L 0) := RowC.start (HS.out.alloc _) (CellsAt.new w _ _ _ rfl)
  have HG : Hid (w.grownBy (w.alloc (Obj.cells #[Value.int IntKind.i64 0] 3)) (some b)) := World.grownBy_alloc w _ _
  have HBP := Lib.hid (show b ≠ w.heap.size by have := HS.out.lt; omega)
  obtain ⟨B, hB⟩ : ∃ B, w.heap.size = B := ⟨_, rfl⟩
  have HB := Lib.hid hB
  rw [hB] at HR HBP ⊢
  generalize w.alloc (Obj.cells #[Value.int IntKind.i64 0] 3) = w1 at *
  have lb := LB.out
  clear HII HJJ HKK LB HLI HL HS hB
  obtain ⟨lb1, lb2, lb3, lb4⟩ := lb
  by_cases l50 : 50 ≤ l
  · go_wp2_with fail
    refine (medianAdj_is b cap B i 0 L _ hL HR.out.c HR.out.s (by omega) HBP.out (by omega) (by omega)).mono ?_
    rintro e1 w2 ⟨i1, n1, rfl, hr1, hn1, hR1⟩
    have HR1 := Lib.hid (HR.out.trans hR1)
    clear hR1 HR
    go_wp2_with fail
    refine (medianAdj_is b cap B j n1 L _ hL HR1.out.c HR1.out.s (by omega) HBP.out (by omega) (by omega)).mono ?_
    rintro e2 w3 ⟨j1, n2, rfl, hr2, hn2, hR2⟩
    have HR2 := Lib.hid (HR1.out.trans hR2)
    clear hR2 HR1
    go_wp2_with fail
    refine (medianAdj_is b cap B k n2 L _ hL HR2.out.c HR2.out.s (by omega) HBP.out (by omega) (by omega)).mono ?_
    rintro e3 w5 ⟨k1, n, rfl, hr3, hn3, hR3⟩
    have HR := Lib.hid (HR2.out.trans hR3)
    clear hR3 HR2
    obtain ⟨hr1a, hr1b⟩ := hr1
    obtain ⟨hr2a, hr2b⟩ := hr2
    obtain ⟨hr3a, hr3b⟩ := hr3
    go_wp2_with fail
    refine (median_is b cap B i1 j1 k1 n L _ hL HR.out.c HR.out.s (by omega) HBP.out (by omega) (by omega) (by omega)).mono ?_
    rintro e4 w4 ⟨r, n4, rfl, hr, hn4, hR4⟩
    have HR4 := Lib.hid (HR.out.trans hR4)
    have HP4 := Lib.hid hr
    have c3 := hR4.s.at_ 0 (v := .int .i64 n4) rfl
    have hsz := hR4.s.lt
    clear hR4 hr HR
    have fin : PivPost w b lo hi L (.returned (.tuple #[.int .i64 r, .int .i64 1])) w4 ∧ PivPost w b lo hi L (.returned (.tuple #[.int .i64 r, .int .i64 2])) w4 ∧ PivPost w b lo hi L (.returned (.tuple #[.int .i64 r, .int .i64 0])) w4 := by
      have hrr : lo ≤ r ∧ r < hi := by have := HP4.out; omega
      have hrow : Row w w4 b L := ⟨HR4.out.c, HG.out.andThen HR4.out.g (fun q e => by cases e; exact .inl (Nat.le_of_eq HB.out))⟩
      exact ⟨⟨r, 1, rfl, hrr.1, hrr.2, hrow⟩, ⟨r, 2, rfl, hrr.1, hrr.2, hrow⟩, ⟨r, 0, rfl, hrr.1, hrr.2, hrow⟩⟩
    have FIN := Lib.hid fin
    clear fin
    by_cases n0 : n4 = 0
    · subst n0
      go_wp2
      go_ret2
      exact FIN.out.1
    · by_cases n12 : n4 = 12
      · subst n12
        go_wp2
        go_ret2
        exact FIN.out.2.1
      · have m0 : ((n4 : Int) == 0) = false := by simp; omega
        have m12 : ((n4 : Int) == 12) = false := by simp; omega
        go_wp2
        go_ret2
        exact FIN.out.2.2
  · obtain ⟨n, hn⟩ : ∃ n, n = 0 := ⟨_, rfl⟩
    have HR : Hid (RowC w1 w1 b B L n) := by rw [hn]; exact HR
    go_wp2_with fail
    refine (median_is b cap B i j k n L _ hL HR.out.c HR.out.s (by omega) HBP.out (by omega) (by omega) (by omega)).mono ?_
    rintro e4 w4 ⟨r, n4, rfl, hr, hn4, hR4⟩
    have HR4 := Lib.hid (HR.out.trans hR4)
    have HP4 := Lib.hid hr
    have c3 := hR4.s.at_ 0 (v := .int .i64 n4) rfl
    have hsz := hR4.s.lt
    clear hR4 hr HR
    have fin : PivPost w b lo hi L (.returned (.tuple #[.int .i64 r, .int .i64 1])) w4 ∧ PivPost w b lo hi L (.returned (.tuple #[.int .i64 r, .int .i64 2])) w4 ∧ PivPost w b lo hi L (.returned (.tuple #[.int .i64 r, .int .i64 0])) w4 := by
      have hrr : lo ≤ r ∧ r < hi := by have := HP4.out; omega
      have hrow : Row w w4 b L := ⟨HR4.out.c, HG.out.andThen HR4.out.g (fun q e => by cases e; exact .inl (Nat.le_of_eq HB.out))⟩
      exact ⟨⟨r, 1, rfl, hrr.1, hrr.2, hrow⟩, ⟨r, 2, rfl, hrr.1, hrr.2, hrow⟩, ⟨r, 0, rfl, hrr.1, hrr.2, hrow⟩⟩
    have FIN := Lib.hid fin
    clear fin
    by_cases n0 : n4 = 0
    · subst n0
      go_wp2
      go_ret2
      exact FIN.out.1
    · by_cases n12 : n4 = 12
      · subst n12
        go_wp2
        go_ret2
        exact FIN.out.2.1
      · have m0 : ((n4 : Int) == 0) = false := by simp; omega
        have m12 : ((n4 : Int) == 12) = false := by simp; omega
        go_wp2
        go_ret2
        exact FIN.out.2.2
end S32

namespace S32
theorem set_set (w : World) (blk off : Nat) (v v' : Value) : (w.setCell ⟨blk, off, none⟩ v).setCell ⟨blk, off, none⟩ v' = w.setCell ⟨blk, off, none⟩ v' := by
  rw [setCell_eq, setCell_eq, mapBlock_mapBlock, setCell_eq]
  congr 1
  funext c
  simp
def NextPost (w0 : World) (p : Nat) (e : Ending) (w : World) : Prop := ∃ v : Nat, v < 18446744073709551616 ∧ e = .returned (.int .u64 v) ∧ CellsAt w p [.int .u64 v] ∧ w0.grownBy w (some p)
set_option maxHeartbeats 8000000 in
set_option maxRecDepth 100000 in
theorem next_is (p X : Nat) (w : World) (hX : X < 18446744073709551616) (h : CellsAt w p [.int .u64 X]) :
    Calls Try.prog 56 #[.pointer (some ⟨p, 0, none⟩)] w (NextPost w p) := by
  have hc := h.at_ 0 (v := .int .u64 X) rfl
  have hf := h.2.1 0
  have H := Lib.hid h
  clear h
  obtain ⟨A, hA⟩ : ∃ A : Nat, A = X ^^^ (X * 8192 % 18446744073709551616) := ⟨_, rfl⟩
  obtain ⟨B, hB⟩ : ∃ B : Nat, B = A ^^^ (A / 128) := ⟨_, rfl⟩
  obtain ⟨C, hC⟩ : ∃ C : Nat, C = B ^^^ (B * 131072 % 18446744073709551616) := ⟨_, rfl⟩
  have lA : A < 18446744073709551616 := by rw [hA]; exact Nat.xor_lt_two_pow (n := 64) (by omega) (by omega)
  have lB : B < 18446744073709551616 := by rw [hB]; exact Nat.xor_lt_two_pow (n := 64) (by omega) (by omega)
  have lC : C < 18446744073709551616 := by rw [hC]; exact Nat.xor_lt_two_pow (n := 64) (by omega) (by omega)
  have e1 : bits .xor .u64 (X : Int) (IntKind.u64.wrap ((X : Int) * 8192)) = (A : Int) := by
    rw [IntKind.wrap_u64, show ((X : Int) * 8192 % 18446744073709551616) = ((X * 8192 % 18446744073709551616 : Nat) : Int) by omega, bits_xor_u64_nat _ _ hX (by omega), hA]
  have e2 : bits .xor .u64 (A : Int) ((A : Int) / 128) = (B : Int) := by
    rw [show ((A : Int) / 128) = ((A / 128 : Nat) : Int) by omega, bits_xor_u64_nat _ _ lA (by omega), hB]
  have e3 : bits .xor .u64 (B : Int) (IntKind.u64.wrap ((B : Int) * 131072)) = (C : Int) := by
    rw [IntKind.wrap_u64, show ((B : Int) * 131072 % 18446744073709551616) = ((B * 131072 % 18446744073709551616 : Nat) : Int) by omega, bits_xor_u64_nat _ _ lB (by omega), hC]
  clear hA hB hC
  have hss : ∀ v v', (w.setCell ⟨p, 0, none⟩ v).setCell ⟨p, 0, none⟩ v' = w.setCell ⟨p, 0, none⟩ v' := set_set w p 0
  go_enter Try.func56, Try.ntmps56
  go_wp2
  go_region
  all_goals go_wp2
  all_goals go_region
  all_goals go_wp2
  all_goals go_region
  all_goals go_wp2
  go_ret
  refine ⟨C, lC, rfl, ?_, ?_⟩
  · exact H.out.set_ 0 (by simp) _
  · exact ⟨rfl, rfl, rfl, (grown_set w p 0 (.int .u64 C)).size, (grown_set w p 0 (.int .u64 C)).block⟩
end S32

namespace S32
theorem pow_len : ∀ n : Fin 65, 8 ≤ n.val → ∃ m : Nat, 1 ≤ m ∧ m ≤ 2 * n.val ∧ (1 : Int) * 2 ^ (Lib.bitLen n.val) = (m : Int) ∧ Lib.bitLen n.val ≤ 7 := by
  intro n h
  have : ∀ n : Fin 65, 8 ≤ n.val → 2 ^ (Lib.bitLen n.val) ≤ 2 * n.val ∧ Lib.bitLen n.val ≤ 7 := by decide +kernel
  exact ⟨2 ^ (Lib.bitLen n.val), Nat.one_le_two_pow, (this n h).1, by simp, (this n h).2⟩
def PowPost (n : Nat) (w0 : World) (e : Ending) (w : World) : Prop := ∃ m : Nat, 1 ≤ m ∧ m ≤ 2 * n ∧ e = .returned (.int .u64 m) ∧ w0 = w
set_option maxHeartbeats 8000000 in
set_option maxRecDepth 100000 in
theorem pow_is (n : Nat) (w : World) (h8 : 8 ≤ n) (h64 : n ≤ 64) :
    Calls Try.prog 55 #[.int .i64 n] w (PowPost n w) := by
  obtain ⟨m, h1, h2, h3, h4⟩ := pow_len ⟨n, by omega⟩ h8
  simp only at h2 h3 h4
  go_enter Try.func55, Try.ntmps55
  go_wp2_with fail
  refine (len n _ (by omega)).mono ?_
  rintro e1 w1 ⟨rfl, rfl⟩
  go_wp2
  go_ret
  exact ⟨m, h1, h2, rfl, rfl⟩
end S32

namespace S32
theorem far_cells {w w' : World} {b p : Nat} {vs : List Value} (h : CellsAt w b vs) (g : w.grownBy w' (some p)) (hne : b ≠ p) : CellsAt w' b vs :=
  ⟨fun j v hj => by rw [World.cell?_of_block (a := ⟨b, j, none⟩) (g.block b h.lt (by simpa using hne))]; exact h.1 j v hj, fun o => by rw [World.frozen?_of_block (a := ⟨b, o, none⟩) (g.block b h.lt (by simpa using hne))]; exact h.2.1 o, Nat.lt_of_lt_of_le h.lt g.size⟩
theorem Row.side {w0 w w' : World} {b p : Nat} {L : List Int} (h : Row w0 w b L) (g : w.grownBy w' (some p)) (hne : b ≠ p) (hp : w0.heap.size ≤ p) : Row w0 w' b L :=
  ⟨far_cells h.c g hne, h.g.andThen g (fun j e => by cases e; exact .inl hp)⟩
theorem Row.alloc {w0 w : World} {b : Nat} {L : List Int} (h : Row w0 w b L) (o : Obj) : Row w0 (w.alloc o) b L :=
  ⟨h.c.alloc o, h.g.andThen (World.grownBy_alloc w o none) (fun j e => by cases e)⟩
def BrkRel (w0 : World) (b lo hi q B : Nat) (L : List Int) (x : Value) (w : World) : Prop := ∃ (i X : Nat) (M : List Int), q ≤ i ∧ i ≤ q + 3 ∧ X < 18446744073709551616 ∧ x = .int .i64 i ∧ CellsAt w B [.int .u64 X] ∧ Row w0 w b M ∧ Sw lo hi L M
set_option maxHeartbeats 8000000 in
set_option maxRecDepth 100000 in
theorem break_is (b cap lo hi : Nat) (L : List Int) (w : World) (hL : L.length ≤ 64) (h : CellsAt w b (vals L)) (hlh : lo + 12 < hi) (hhi : hi ≤ L.length) :
    Calls Try.prog 45 #[.slice (some ⟨b, 0, none⟩) L.length cap, .int .i64 lo, .int .i64 hi] w (SwPost w b lo hi L) := by
  have HS := Lib.hid (Row.start h)
  obtain ⟨l, hl⟩ : ∃ l, hi = lo + l := ⟨hi - lo, by omega⟩
  obtain ⟨q, hq⟩ : ∃ q, q = lo + l / 4 * 2 - 1 := ⟨_, rfl⟩
  have HLI := Lib.hid (show (hi : Int) - (lo : Int) = (l : Int) by omega)
  have HQ := Lib.hid (show (lo : Int) + (l : Int) / 4 * 2 - 1 = (q : Int) by omega)
  have HQ' := Lib.hid hq
  have HL := Lib.hid hl
  have l12 : 12 < l := by omega
  have l64 : l ≤ 64 := by omega
  clear h hl hq
  go_enter Try.func45, Try.ntmps45
  go_upto_region 1 with (fail)
  rw [HLI.out]
  go_upto_region 3 with (fail)
  have HB : Hid (CellsAt (w.alloc (Obj.cells #[Value.int IntKind.u64 l] 101)) w.heap.size [.int .u64 l]) := CellsAt.new w _ _ _ rfl
  have HBN := Lib.hid (show b ≠ w.heap.size by have := HS.out.c.lt; omega)
  have HR0 : Hid (Row w (w.alloc (Obj.cells #[Value.int IntKind.u64 l] 101)) b L) := HS.out.alloc _
  obtain ⟨B, hB⟩ : ∃ B, w.heap.size = B := ⟨_, rfl⟩
  have HBE := Lib.hid (Nat.le_of_eq hB)
  rw [hB] at HB HBN ⊢
  generalize w.alloc (Obj.cells #[Value.int IntKind.u64 l] 101) = w1 at *
  clear hB HLI HS
  go_wp2_with fail
  refine (pow_is l _ (by omega) l64).mono ?_
  rintro e2 w2 ⟨m, hm1, hm2, rfl, rfl⟩
  go_upto_region 5 with (fail)
  rw [HQ.out]
  go_wp2
  go_loopw [9] (fun x wr => BrkRel w b lo hi q B L x wr) (fun x _ => q + 4 - (intOf x).toNat)
  case atStart => exact ⟨q, l, L, Nat.le_refl _, by omega, by omega, rfl, HB.out, HR0.out, .refl⟩
  case round =>
    obtain ⟨i, X, M, hi1, hi2, hX, rfl, hB, hR, hS⟩ := hrel
    clear HR0 HB
    have HR := Lib.hid hR; have HSW := Lib.hid hS; have HB := Lib.hid hB
    have hml := hS.len
    have HML := Lib.hid hml
    clear hR hS hml hB
    by_cases hi3 : i < q + 3
    · have hle : (i : Int) ≤ (lo : Int) + (l : Int) / 4 * 2 + 1 := by have := HQ.out; omega
      have HIL := Lib.hid (show lo ≤ i ∧ i < hi by have := HQ'.out; have := HL.out; omega)
      go_wp2_with fail
      refine (next_is B X _ hX HB.out).mono ?_
      rintro e3 w3 ⟨v, hv, rfl, hB3, hg3⟩
      have HR3 := Lib.hid (HR.out.side hg3 HBN.out HBE.out)
      have HB3 := Lib.hid hB3
      clear hB3 hg3 HR HB
      obtain ⟨o, ho⟩ : ∃ o : Nat, o = v &&& (m - 1) := ⟨_, rfl⟩
      have lo1 : o ≤ m - 1 := by rw [ho]; exact Nat.and_le_right
      have eAnd : bits .and .u64 (v : Int) ((m : Int) - 1) = (o : Int) := by
        rw [show ((m : Int) - 1) = ((m - 1 : Nat) : Int) by omega, bits_and_u64_nat _ _ hv (by omega), ho]
      have ewo : IntKind.i64.wrap (o : Int) = (o : Int) := IntWalk.i64_in _ (by omega)
      clear ho
      obtain ⟨o1, ho1⟩ : ∃ o1 : Nat, o1 = if l ≤ o then o - l else o := ⟨_, rfl⟩
      have ho1l : o1 < l := by rw [ho1]; split <;> omega
      have q1 := val_cell HR3.out.c i (by have := HML.out; have := HIL.out; omega)
      have q2 := val_cell HR3.out.c (lo + o1) (by have := HML.out; have := HL.out; omega)
      obtain ⟨x, hx⟩ : ∃ x, M.getD i 0 = x := ⟨_, rfl⟩
      obtain ⟨y, hy⟩ : ∃ y, M.getD (lo + o1) 0 = y := ⟨_, rfl⟩
      rw [hx] at q1
      rw [hy] at q2
      have HX := Lib.hid hx; have HY := Lib.hid hy
      have hff := HR3.out.c.2.1
      have hfb := HR3.out.c.lt
      have f1 : IntKind.i64.wrap ((lo : Int) + (o1 : Int)) = (lo : Int) + (o1 : Int) := IntWalk.i64_in _ (by omega)
      have f2 : ((lo : Int) + (o1 : Int)).toNat = lo + o1 := by omega
      have f3 : (lo : Int) + (o1 : Int) < (L.length : Int) := by have := HL.out; omega
      have f4 : (0 : Int) ≤ (lo : Int) + (o1 : Int) := by omega
      have f5 : (i : Int) < (L.length : Int) := by have := HIL.out; omega
      have cz := set_reads q1 q2
      have HB4 := Lib.hid ((HB3.out.other (fun e => HBN.out e.symm) i (.int .i32 y)).other (fun e => HBN.out e.symm) (lo + o1) (.int .i32 x))
      have HR4 := Lib.hid (HR3.out.set2 i (lo + o1) (by have := HML.out; have := HIL.out; omega) (by have := HML.out; have := HL.out; omega) x y HX.out HY.out)
      have HS4 := Lib.hid (HSW.out.step i (lo + o1) HIL.out.1 HIL.out.2 (by omega) (by have := HL.out; omega))
      clear hx hy
      by_cases hlo : l ≤ o
      · have hoI : (o : Int) - (l : Int) = (o1 : Int) := by rw [ho1, if_pos hlo]; omega
        have HOI := Lib.hid hoI
        clear ho1 hoI
        go_upto_region 10 with (fail)
        rw [HOI.out]
        go_region
        go_wp2
        go_round
        case rel => exact ⟨i + 1, v, _, by omega, by omega, hv, by go_num, by first | exact HB4.out | exact HB4.out.drew, by first | exact HR4.out | exact HR4.out.drew, HS4.out⟩
        case measure => first | (simp [intOf]; done) | (simp [intOf]; omega)
      · rw [if_neg hlo] at ho1
        obtain rfl := ho1.symm
        go_upto_region 10 with (fail)
        go_region
        go_wp2
        go_round
        case rel => exact ⟨i + 1, v, _, by omega, by omega, hv, by go_num, by first | exact HB4.out | exact HB4.out.drew, by first | exact HR4.out | exact HR4.out.drew, HS4.out⟩
        case measure => first | (simp [intOf]; done) | (simp [intOf]; omega)
    · have hgt : (lo : Int) + (l : Int) / 4 * 2 + 1 < (i : Int) := by have := HQ.out; omega
      go_wp2
      go_end0
      exact ⟨rfl, M, HR.out, HSW.out⟩
end S32

end Go.Proofs.Ytijoalaijkobpaa
