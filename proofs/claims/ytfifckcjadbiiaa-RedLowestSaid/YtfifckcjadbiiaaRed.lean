/- What the functions of package red compute: one lane. -/
import Derived.Test.YtfifckcjadbiiaaLaneMore
import Derived.Test.YtfifckcjadbiiaaLaneNext
import Derived.Deep.RegionWith
namespace Go.Proofs.Ytfifckcjadbiiaa
open Go.ChangeShapes Go.WideShapes Go.ChangeAt Go.RowKit
set_option linter.unusedVariables false

/-- four lanes -/
abbrev Team := Nat → Int × Bool × Int
def upd (T : Team) (i : Nat) (s : Int × Bool × Int) : Team := fun j => if j = i then s else T j
def nx (s : Int × Bool × Int) (e : Int) : Int × Bool × Int := nextI s.1 s.2.1 s.2.2 e
def OkS (s : Int × Bool × Int) : Prop := LaneOk s.1 s.2.1 s.2.2
theorem nx_ok {s : Int × Bool × Int} {e : Int} (h : OkS s) (he : e = 1 ∨ e = 2 ∨ e = 3 ∨ e = 4 ∨ e = 5 ∨ e = 6 ∨ e = 7) : OkS (nx s e) := (next_ok h he rfl).1
/-- four lanes lie in a block -/
def TeamAt (w : World) (b : Nat) (T : Team) : Prop :=
  (∀ i, i < 4 → w.cell? ⟨b, 3 * i, none⟩ = some (.int .i64 (T i).1) ∧ w.cell? ⟨b, 3 * i + 1, none⟩ = some (.bool (T i).2.1) ∧ w.cell? ⟨b, 3 * i + 2, none⟩ = some (.int .i64 (T i).2.2)) ∧ (∀ o, w.frozen? ⟨b, o, none⟩ = false)
theorem TeamAt.lt {w : World} {b : Nat} {T : Team} (h : TeamAt w b T) : b < w.heap.size := by
  have := World.block_lt_of_cell? _ _ (h.1 0 (by omega)).1
  simpa using this
theorem TeamAt.kept {w w' : World} {b c : Nat} {T : Team} (h : TeamAt w b T) (hg : w.grownBy w' (some c)) (hne : b ≠ c) : TeamAt w' b T := by
  have hb := hg.block b h.lt (fun e => hne (by cases e; rfl))
  refine ⟨fun i hi => ?_, fun o => ?_⟩
  · obtain ⟨h1, h2, h3⟩ := h.1 i hi
    exact ⟨(World.cell?_of_block (w := w) hb).trans h1, (World.cell?_of_block (w := w) hb).trans h2, (World.cell?_of_block (w := w) hb).trans h3⟩
  · have := h.2 o
    unfold World.frozen? at *
    simpa [hb] using this
theorem TeamAt.later {w w' : World} {b B : Nat} {T : Team} (h : TeamAt w b T) (hB : Below B w w') (hb : b < B) : TeamAt w' b T :=
  ⟨fun i hi => by obtain ⟨h1, h2, h3⟩ := h.1 i hi; exact ⟨(hB.cell hb).trans h1, (hB.cell hb).trans h2, (hB.cell hb).trans h3⟩, fun o => (hB.frozen hb).trans (h.2 o)⟩
theorem grown_three {w w2 : World} {b : Nat} (h : Below w.heap.size w w2) (o1 o2 o3 : Nat) (v1 v2 v3 : Value) :
    w.grownBy (((w2.setCell ⟨b, o1, none⟩ v1).setCell ⟨b, o2, none⟩ v2).setCell ⟨b, o3, none⟩ v3) (some b) :=
  ⟨h.os, h.tape, h.output, by simpa [World.setCell] using h.size, fun k hk hne => by
    have e : k ≠ b := fun e => hne (by rw [e])
    rw [Below.heap_setCell _ _ _ k e, Below.heap_setCell _ _ _ k e, Below.heap_setCell _ _ _ k e]; exact h.block k hk⟩
theorem team_set {w : World} {b : Nat} {T : Team} (h : TeamAt w b T) (i : Nat) (hi : i < 4) (s : Int × Bool × Int) :
    TeamAt (((w.setCell ⟨b, 3 * i, none⟩ (.int .i64 s.1)).setCell ⟨b, 3 * i + 1, none⟩ (.bool s.2.1)).setCell ⟨b, 3 * i + 2, none⟩ (.int .i64 s.2.2)) b (upd T i s) := by
  have ne : ∀ {x y : Nat}, x ≠ y → (⟨b, x, none⟩ : Addr) ≠ ⟨b, y, none⟩ := fun hxy e => hxy (congrArg Addr.off e)
  refine ⟨fun j hj => ?_, fun o => by rw [World.frozen?_setCell, World.frozen?_setCell, World.frozen?_setCell]; exact h.2 o⟩
  obtain ⟨a1, a2, a3⟩ := h.1 i hi
  obtain ⟨h1, h2, h3⟩ := h.1 j hj
  by_cases hji : j = i
  · subst hji
    simp only [upd, if_pos]
    refine ⟨?_, ?_, ?_⟩
    · rw [World.cell?_setCell_other _ _ _ _ (ne (by omega)), World.cell?_setCell_other _ _ _ _ (ne (by omega))]
      exact World.cell?_setCell_same _ _ _ a1
    · rw [World.cell?_setCell_other _ _ _ _ (ne (by omega))]
      exact World.cell?_setCell_same _ _ _ ((World.cell?_setCell_other _ _ _ _ (ne (by omega))).trans a2)
    · exact World.cell?_setCell_same _ _ _ ((World.cell?_setCell_other _ _ _ _ (ne (by omega))).trans ((World.cell?_setCell_other _ _ _ _ (ne (by omega))).trans a3))
  · simp only [upd, if_neg hji]
    refine ⟨?_, ?_, ?_⟩
    · rw [World.cell?_setCell_other _ _ _ _ (ne (by omega)), World.cell?_setCell_other _ _ _ _ (ne (by omega)), World.cell?_setCell_other _ _ _ _ (ne (by omega))]; exact h1
    · rw [World.cell?_setCell_other _ _ _ _ (ne (by omega)), World.cell?_setCell_other _ _ _ _ (ne (by omega)), World.cell?_setCell_other _ _ _ _ (ne (by omega))]; exact h2
    · rw [World.cell?_setCell_other _ _ _ _ (ne (by omega)), World.cell?_setCell_other _ _ _ _ (ne (by omega)), World.cell?_setCell_other _ _ _ _ (ne (by omega))]; exact h3
/-- behind a call that keeps all but block b -/
def OnPost (b : Nat) (T : Team) (w : World) (e : Ending) (w' : World) : Prop := e = .returned (.tuple #[]) ∧ TeamAt w' b T ∧ w.grownBy w' (some b)
set_option maxHeartbeats 4000000 in
theorem on_any (b : Nat) (T : Team) (i : Nat) (hi : i < 4) (e : Int) (he : e = 1 ∨ e = 2 ∨ e = 3 ∨ e = 4 ∨ e = 5 ∨ e = 6 ∨ e = 7) (w : World) (hT : TeamAt w b T) (hok : OkS (T i)) :
    Calls Try.prog 23 #[.pointer (some ⟨b, 0, none⟩), .int .i64 i, .int .i64 e] w (OnPost b (upd T i (nx (T i) e)) w) := by
  have HT := Lib.hid hT
  have hb := hT.lt
  have HE := Lib.hid he
  obtain ⟨⟨m', f', r'⟩, hy⟩ : ∃ y, nextI (T i).1 (T i).2.1 (T i).2.2 e = y := ⟨_, rfl⟩
  have HY := Lib.hid hy
  have HOK : Hid (LaneOk (T i).1 (T i).2.1 (T i).2.2) := (hok : LaneOk (T i).1 (T i).2.1 (T i).2.2)
  obtain ⟨c0, c1, c2⟩ := hT.1 i hi
  have hf := hT.2
  clear hT he hy hok
  rcases (by omega : i = 0 ∨ i = 1 ∨ i = 2 ∨ i = 3) with rfl | rfl | rfl | rfl
  · change w.cell? ⟨b, 0, none⟩ = _ at c0
    change w.cell? ⟨b, 1, none⟩ = _ at c1
    change w.cell? ⟨b, 2, none⟩ = _ at c2
    go_enter Try.func23, Try.ntmps23
    go_wp2
    go_region_with ((go_at_call 9; refine (next_any _ _ _ _ _ HOK.out HE.out m' f' r' HY.out).mono ?_; rintro e1 w1 ⟨rfl, hb1⟩; have c0' := cell_later hb1 c0; have c1' := cell_later hb1 c1; have c2' := cell_later hb1 c2; have hf' : ∀ o, w1.frozen? ⟨b, o, none⟩ = false := fun o => (hb1.frozen (by simp; omega)).trans (hf o)))
    have hT1 : TeamAt w1 b T := TeamAt.later (w := w.drew) HT.out hb1 hb
    have hs := team_set hT1 0 (by omega) (m', f', r')
    have hg : w.grownBy (((w1.setCell ⟨b, 0, none⟩ (.int .i64 m')).setCell ⟨b, 1, none⟩ (.bool f')).setCell ⟨b, 2, none⟩ (.int .i64 r')) (some b) := grown_three (w := w) ⟨hb1.os, hb1.tape, hb1.output, hb1.size, hb1.block⟩ _ _ _ _ _ _
    have hn : nx (T 0) e = (m', f', r') := HY.out
    go_end0
    exact ⟨rfl, by rw [hn]; exact hs, hg⟩
  · change w.cell? ⟨b, 3, none⟩ = _ at c0
    change w.cell? ⟨b, 4, none⟩ = _ at c1
    change w.cell? ⟨b, 5, none⟩ = _ at c2
    go_enter Try.func23, Try.ntmps23
    go_wp2
    go_region_with ((go_at_call 9; refine (next_any _ _ _ _ _ HOK.out HE.out m' f' r' HY.out).mono ?_; rintro e1 w1 ⟨rfl, hb1⟩; have c0' := cell_later hb1 c0; have c1' := cell_later hb1 c1; have c2' := cell_later hb1 c2; have hf' : ∀ o, w1.frozen? ⟨b, o, none⟩ = false := fun o => (hb1.frozen (by simp; omega)).trans (hf o)))
    have hT1 : TeamAt w1 b T := TeamAt.later (w := w.drew) HT.out hb1 hb
    have hs := team_set hT1 1 (by omega) (m', f', r')
    have hg : w.grownBy (((w1.setCell ⟨b, 3, none⟩ (.int .i64 m')).setCell ⟨b, 4, none⟩ (.bool f')).setCell ⟨b, 5, none⟩ (.int .i64 r')) (some b) := grown_three (w := w) ⟨hb1.os, hb1.tape, hb1.output, hb1.size, hb1.block⟩ _ _ _ _ _ _
    have hn : nx (T 1) e = (m', f', r') := HY.out
    go_end0
    exact ⟨rfl, by rw [hn]; exact hs, hg⟩
  · change w.cell? ⟨b, 6, none⟩ = _ at c0
    change w.cell? ⟨b, 7, none⟩ = _ at c1
    change w.cell? ⟨b, 8, none⟩ = _ at c2
    go_enter Try.func23, Try.ntmps23
    go_wp2
    go_region_with ((go_at_call 9; refine (next_any _ _ _ _ _ HOK.out HE.out m' f' r' HY.out).mono ?_; rintro e1 w1 ⟨rfl, hb1⟩; have c0' := cell_later hb1 c0; have c1' := cell_later hb1 c1; have c2' := cell_later hb1 c2; have hf' : ∀ o, w1.frozen? ⟨b, o, none⟩ = false := fun o => (hb1.frozen (by simp; omega)).trans (hf o)))
    have hT1 : TeamAt w1 b T := TeamAt.later (w := w.drew) HT.out hb1 hb
    have hs := team_set hT1 2 (by omega) (m', f', r')
    have hg : w.grownBy (((w1.setCell ⟨b, 6, none⟩ (.int .i64 m')).setCell ⟨b, 7, none⟩ (.bool f')).setCell ⟨b, 8, none⟩ (.int .i64 r')) (some b) := grown_three (w := w) ⟨hb1.os, hb1.tape, hb1.output, hb1.size, hb1.block⟩ _ _ _ _ _ _
    have hn : nx (T 2) e = (m', f', r') := HY.out
    go_end0
    exact ⟨rfl, by rw [hn]; exact hs, hg⟩
  · change w.cell? ⟨b, 9, none⟩ = _ at c0
    change w.cell? ⟨b, 10, none⟩ = _ at c1
    change w.cell? ⟨b, 11, none⟩ = _ at c2
    go_enter Try.func23, Try.ntmps23
    go_wp2
    go_region_with ((go_at_call 9; refine (next_any _ _ _ _ _ HOK.out HE.out m' f' r' HY.out).mono ?_; rintro e1 w1 ⟨rfl, hb1⟩; have c0' := cell_later hb1 c0; have c1' := cell_later hb1 c1; have c2' := cell_later hb1 c2; have hf' : ∀ o, w1.frozen? ⟨b, o, none⟩ = false := fun o => (hb1.frozen (by simp; omega)).trans (hf o)))
    have hT1 : TeamAt w1 b T := TeamAt.later (w := w.drew) HT.out hb1 hb
    have hs := team_set hT1 3 (by omega) (m', f', r')
    have hg : w.grownBy (((w1.setCell ⟨b, 9, none⟩ (.int .i64 m')).setCell ⟨b, 10, none⟩ (.bool f')).setCell ⟨b, 11, none⟩ (.int .i64 r')) (some b) := grown_three (w := w) ⟨hb1.os, hb1.tape, hb1.output, hb1.size, hb1.block⟩ _ _ _ _ _ _
    have hn : nx (T 3) e = (m', f', r') := HY.out
    go_end0
    exact ⟨rfl, by rw [hn]; exact hs, hg⟩

end Go.Proofs.Ytfifckcjadbiiaa
