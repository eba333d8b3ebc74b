/- steadkeep.spoil: what overwrites a list with its spare memory. -/
import Derived.Test.YtlagmebnjagoaaaGreatPkZf
namespace Go.Proofs.YtlagmebnjagoaaaGreat
open Go.ChangeShapes Go.WideShapes Go.ChangeAt Go.RowKit
set_option linter.unusedVariables false

def BlkOf (w : World) (g : Nat) (E : TypeId) (N : Nat) : Prop := ∃ cur, w.heap[g]? = some (.cells cur E (0, 0)) ∧ cur.size = N
theorem own_blk {w : World} {base g n cap k : Nat} {E : TypeId} {xs : List Value} (h : w.ownsRow base E k (.slice (some ⟨g, 0, none⟩) n cap) n xs) : BlkOf w g E (cap * k) ∧ base ≤ g ∧ g < w.heap.size := by
  rcases h.2 with ⟨h, -⟩ | ⟨g', cap', cur, e1, e2, e3, e4, e5, e6, -⟩
  · cases h
  · cases e1; exact ⟨⟨cur, e3, e6⟩, e2, (Array.getElem?_eq_some_iff.1 e3).1⟩
theorem BlkOf.cell {w : World} {g N : Nat} {E : TypeId} (h : BlkOf w g E N) (i : Nat) (hi : i < N) : ∃ v, w.cell? ⟨g, i, none⟩ = some v := by
  obtain ⟨cur, h1, h2⟩ := h
  rw [cell_of_row w g i cur E (0, 0) h1]
  exact ⟨cur[i]'(by omega), Array.getElem?_eq_getElem _⟩
theorem BlkOf.frozen {w : World} {g N : Nat} {E : TypeId} (h : BlkOf w g E N) (i : Nat) : w.frozen? ⟨g, i, none⟩ = false := by
  obtain ⟨cur, h1, h2⟩ := h
  simp [World.frozen?, h1]
theorem BlkOf.lt {w : World} {g N : Nat} {E : TypeId} (h : BlkOf w g E N) : g < w.heap.size := by
  obtain ⟨cur, h1, h2⟩ := h
  exact (Array.getElem?_eq_some_iff.1 h1).1
theorem BlkOf.set {w : World} {g N : Nat} {E : TypeId} (h : BlkOf w g E N) (i : Nat) (v : Value) : BlkOf (w.setCell ⟨g, i, none⟩ v) g E N := by
  obtain ⟨cur, h1, h2⟩ := h
  exact ⟨cur.setIfInBounds i v, by simp [World.setCell, Array.getElem?_modify, h1], by simpa using h2⟩
theorem BlkOf.grown {w w' : World} {g N : Nat} {r : Option Nat} {E : TypeId} (h : BlkOf w g E N) (hb : w.grownBy w' r) (hr : r ≠ some g) : BlkOf w' g E N := by
  have hl := h.lt
  obtain ⟨cur, h1, h2⟩ := h
  exact ⟨cur, (hb.block g hl (fun e => hr e.symm)).trans h1, h2⟩
theorem BlkOf.later {w w' : World} {g N B : Nat} {E : TypeId} (h : BlkOf w g E N) (hb : Below B w w') (hg : g < B) : BlkOf w' g E N := by
  obtain ⟨cur, h1, h2⟩ := h
  exact ⟨cur, (hb.block g hg).trans h1, h2⟩
theorem BlkOf.alloc {w : World} {g N : Nat} {E : TypeId} (h : BlkOf w g E N) (o : Obj) : BlkOf (w.alloc o) g E N := h.later ((Below.refl w.heap.size w).alloc (Nat.le_refl _) o) h.lt

def SpRel_ent (w0 : World) (g B : Nat) (E : TypeId) (a b c d : Int) (cap N : Nat) (i : Value) (w : World) : Prop := ∃ k : Nat, k ≤ cap ∧ i = .int .i64 k ∧ BlkOf w g E N ∧ CellsAt w B [.int .i64 a, .int .i64 b, .int .i64 c, .int .i64 d] ∧ w0.grownBy w (some g)
set_option maxHeartbeats 4000000 in
set_option maxRecDepth 100000 in
theorem spoil_ent (g n cap : Nat) (a b c d : Int) (w : World) (hb : BlkOf w g 72 (cap * 4)) (hn : n ≤ cap) (hc : cap ≤ 9223372036854775807) :
    Calls Tryz.prog 21 #[.slice (some ⟨g, 0, none⟩) n cap, .agg #[.int .i64 a, .int .i64 b, .int .i64 c, .int .i64 d]] w fun e w' => e = .returned (.tuple #[]) ∧ w.grownBy w' (some g) := by
  have HB := Lib.hid (hb.alloc (.cells #[.int .i64 a, .int .i64 b, .int .i64 c, .int .i64 d] 72))
  have HX1 : Hid (CellsAt (w.alloc (.cells #[.int .i64 a, .int .i64 b, .int .i64 c, .int .i64 d] 72)) w.heap.size [.int .i64 a, .int .i64 b, .int .i64 c, .int .i64 d]) := Lib.hid (CellsAt.new' rfl rfl)
  have HG0 : Hid (w.grownBy (w.alloc (.cells #[.int .i64 a, .int .i64 b, .int .i64 c, .int .i64 d] 72)) (some g)) := Lib.hid (World.grownBy_alloc w _ _)
  have hgs : g < w.heap.size := hb.lt
  clear hb
  go_enter Tryz.func21, Tryz.ntmps21
  go_upto_region 1 with (fail)
  generalize w.alloc (.cells #[.int .i64 a, .int .i64 b, .int .i64 c, .int .i64 d] 72) = w1 at *
  go_wp2
  go_loopw [11] (fun i wr => SpRel_ent w g w.heap.size 72 a b c d cap (cap * 4) i wr) (fun i _ => cap - (intOf i).toNat)
  case atStart => exact ⟨0, Nat.zero_le _, rfl, HB.out, HX1.out, HG0.out⟩
  case round =>
    obtain ⟨k, hk, rfl, hB, hX, hg⟩ := hrel
    have HB2 := Lib.hid hB; have HG := Lib.hid hg; have HX := Lib.hid hX
    clear hg
    by_cases hlt : k < cap
    · have d1 : (k : Int) < (cap : Int) := by omega
      obtain ⟨y0, hy0⟩ := hB.cell (k * 4) (by omega)
      have x0 := hX.at_ 0 rfl
      obtain ⟨y1, hy1⟩ := hB.cell (k * 4 + 1) (by omega)
      have x1 := hX.at_ 1 rfl
      obtain ⟨y2, hy2⟩ := hB.cell (k * 4 + 2) (by omega)
      have x2 := hX.at_ 2 rfl
      obtain ⟨y3, hy3⟩ := hB.cell (k * 4 + 3) (by omega)
      have x3 := hX.at_ 3 rfl
      have hf := hB.frozen
      have hz := hB.lt
      have hz2 := hX.lt
      clear hB hX
      go_wp2
      go_roundw
      case rel => exact ⟨k + 1, by omega, by go_num, ((((HB2.out.set (k * 4) _).set (k * 4 + 1) _).set (k * 4 + 2) _).set (k * 4 + 3) _), ((((HX.out.other (by omega) (k * 4) _).other (by omega) (k * 4 + 1) _).other (by omega) (k * 4 + 2) _).other (by omega) (k * 4 + 3) _), ((((HG.out.andThen (grown_setW _ g (k * 4) _) (fun j e => by cases e; exact .inr rfl)).andThen (grown_setW _ g (k * 4 + 1) _) (fun j e => by cases e; exact .inr rfl)).andThen (grown_setW _ g (k * 4 + 2) _) (fun j e => by cases e; exact .inr rfl)).andThen (grown_setW _ g (k * 4 + 3) _) (fun j e => by cases e; exact .inr rfl))⟩
      case measure => simp [intOf]; omega
    · obtain rfl : k = cap := by omega
      go_wp2
      go_end0
      exact ⟨rfl, HG.out⟩
set_option maxHeartbeats 4000000 in
theorem spoil_ent0 (a b c d : Int) (w : World) : Calls Tryz.prog 21 #[.slice none 0 0, .agg #[.int .i64 a, .int .i64 b, .int .i64 c, .int .i64 d]] w fun e w' => e = .returned (.tuple #[]) ∧ Below w.heap.size w w' := by
  have HB : Hid (Below w.heap.size w (w.alloc (.cells #[.int .i64 a, .int .i64 b, .int .i64 c, .int .i64 d] 72))) := Lib.hid ((Below.refl _ _).alloc (Nat.le_refl _) _)
  go_enter Tryz.func21, Tryz.ntmps21
  go_upto_region 1 with (fail)
  generalize w.alloc (.cells #[.int .i64 a, .int .i64 b, .int .i64 c, .int .i64 d] 72) = w1 at *
  go_wp2
  go_loopw [11] (fun i wr => i = .int .i64 0 ∧ wr = w1) (fun i _ => 0)
  case atStart => exact ⟨rfl, rfl⟩
  case round =>
    obtain ⟨rfl, rfl⟩ := hrel
    go_wp2
    go_end0
    exact ⟨rfl, HB.out⟩

def SpRel_point (w0 : World) (g B : Nat) (E : TypeId) (a b c : Int) (cap N : Nat) (i : Value) (w : World) : Prop := ∃ k : Nat, k ≤ cap ∧ i = .int .i64 k ∧ BlkOf w g E N ∧ CellsAt w B [.int .i32 a, .int .i64 b, .int .i32 c] ∧ w0.grownBy w (some g)
set_option maxHeartbeats 4000000 in
set_option maxRecDepth 100000 in
theorem spoil_point (g n cap : Nat) (a b c : Int) (w : World) (hb : BlkOf w g 83 (cap * 3)) (hn : n ≤ cap) (hc : cap ≤ 9223372036854775807) :
    Calls Tryz.prog 20 #[.slice (some ⟨g, 0, none⟩) n cap, .agg #[.int .i32 a, .int .i64 b, .int .i32 c]] w fun e w' => e = .returned (.tuple #[]) ∧ w.grownBy w' (some g) := by
  have HB := Lib.hid (hb.alloc (.cells #[.int .i32 a, .int .i64 b, .int .i32 c] 83))
  have HX1 : Hid (CellsAt (w.alloc (.cells #[.int .i32 a, .int .i64 b, .int .i32 c] 83)) w.heap.size [.int .i32 a, .int .i64 b, .int .i32 c]) := Lib.hid (CellsAt.new' rfl rfl)
  have HG0 : Hid (w.grownBy (w.alloc (.cells #[.int .i32 a, .int .i64 b, .int .i32 c] 83)) (some g)) := Lib.hid (World.grownBy_alloc w _ _)
  have hgs : g < w.heap.size := hb.lt
  clear hb
  go_enter Tryz.func20, Tryz.ntmps20
  go_upto_region 1 with (fail)
  generalize w.alloc (.cells #[.int .i32 a, .int .i64 b, .int .i32 c] 83) = w1 at *
  go_wp2
  go_loopw [11] (fun i wr => SpRel_point w g w.heap.size 83 a b c cap (cap * 3) i wr) (fun i _ => cap - (intOf i).toNat)
  case atStart => exact ⟨0, Nat.zero_le _, rfl, HB.out, HX1.out, HG0.out⟩
  case round =>
    obtain ⟨k, hk, rfl, hB, hX, hg⟩ := hrel
    have HB2 := Lib.hid hB; have HG := Lib.hid hg; have HX := Lib.hid hX
    clear hg
    by_cases hlt : k < cap
    · have d1 : (k : Int) < (cap : Int) := by omega
      obtain ⟨y0, hy0⟩ := hB.cell (k * 3) (by omega)
      have x0 := hX.at_ 0 rfl
      obtain ⟨y1, hy1⟩ := hB.cell (k * 3 + 1) (by omega)
      have x1 := hX.at_ 1 rfl
      obtain ⟨y2, hy2⟩ := hB.cell (k * 3 + 2) (by omega)
      have x2 := hX.at_ 2 rfl
      have hf := hB.frozen
      have hz := hB.lt
      have hz2 := hX.lt
      clear hB hX
      go_wp2
      go_roundw
      case rel => exact ⟨k + 1, by omega, by go_num, (((HB2.out.set (k * 3) _).set (k * 3 + 1) _).set (k * 3 + 2) _), (((HX.out.other (by omega) (k * 3) _).other (by omega) (k * 3 + 1) _).other (by omega) (k * 3 + 2) _), (((HG.out.andThen (grown_setW _ g (k * 3) _) (fun j e => by cases e; exact .inr rfl)).andThen (grown_setW _ g (k * 3 + 1) _) (fun j e => by cases e; exact .inr rfl)).andThen (grown_setW _ g (k * 3 + 2) _) (fun j e => by cases e; exact .inr rfl))⟩
      case measure => simp [intOf]; omega
    · obtain rfl : k = cap := by omega
      go_wp2
      go_end0
      exact ⟨rfl, HG.out⟩

end Go.Proofs.YtlagmebnjagoaaaGreat
