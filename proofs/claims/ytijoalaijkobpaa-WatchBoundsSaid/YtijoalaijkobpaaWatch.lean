/- What the functions of package watch compute. -/
import Derived.Test.YtijoalaijkobpaaSat
import Derived.Test.YtijoalaijkobpaaCount
import Derived.StillTailTactics
namespace Go.Proofs.Ytijoalaijkobpaa
open Go.ChangeShapes Go.WideShapes Go.ChangeAt Go.RowKit
set_option linter.unusedVariables false

/-- is a number farther from another one than may be -/
def offB (a b m : Int) : Bool := decide (m < a - b) || decide (m < b - a)
theorem off_any (a b m : Int) (w : World) (ha : -2147483648 ≤ a ∧ a ≤ 2147483647) (hb : -2147483648 ≤ b ∧ b ≤ 2147483647) (hm : -2147483648 ≤ m ∧ m ≤ 2147483647) :
    Calls Try.prog 28 #[.int .i32 a, .int .i32 b, .int .i32 m] w fun e w' => e = .returned (.bool (offB a b m)) ∧ w = w' := by
  have hcase : (decide (m < a - b) = true ∧ offB a b m = true) ∨ ((decide (m < a - b) = false ∧ decide (m < -(a - b)) = true) ∧ offB a b m = true) ∨ ((decide (m < a - b) = false ∧ decide (m < -(a - b)) = false) ∧ offB a b m = false) := by
    unfold offB
    by_cases h1 : m < a - b
    · exact .inl ⟨decide_eq_true h1, by simp [h1]⟩
    · by_cases h2 : m < b - a
      · exact .inr (.inl ⟨⟨decide_eq_false h1, decide_eq_true (by omega)⟩, by simp [h2]⟩)
      · exact .inr (.inr ⟨⟨decide_eq_false h1, decide_eq_false (by omega)⟩, by simp [h1, h2]⟩)
  rcases hcase with ⟨d1, hv⟩ | ⟨⟨d1, d2⟩, hv⟩ | ⟨⟨d1, d2⟩, hv⟩
  all_goals
    rw [hv]; clear hv
    have hb : -4294967295 ≤ a - b ∧ a - b ≤ 4294967295 := by omega
    go_enter Try.func28, Try.ntmps28
    go_wp2
    go_ret
    exact ⟨rfl, rfl⟩

abbrev watchV (m0 m1 m2 m3 m4 up down most : Int) : Value := .agg #[.int .i32 m0, .int .i32 m1, .int .i32 m2, .int .i32 m3, .int .i32 m4, .int .i64 up, .int .i64 down, .int .i64 most]
abbrev laneV (a b p m t f : Int) (v : Bool) : Value := .agg #[.int .i32 a, .int .i32 b, .int .i32 p, .int .i32 m, .int .i32 t, .int .i32 f, .bool v]
/-- is a force greater than may be -/
def forceB (f m : Int) : Bool := decide (m < sat32 (absI f))
abbrev lookV (m0 m1 m2 m3 m4 a b p m t f : Int) (v : Bool) : Value := .agg #[.bool (offB a b m0), .bool (offB p m m1), .bool (offB p t m2), .bool (forceB f m3), .bool (!v)]
/-- five bools lie in a block -/
def FiveAt (w : World) (b : Nat) (r0 r1 r2 r3 r4 : Bool) : Prop :=
  w.cell? ⟨b, 0, none⟩ = some (.bool r0) ∧ w.cell? ⟨b, 1, none⟩ = some (.bool r1) ∧ w.cell? ⟨b, 2, none⟩ = some (.bool r2) ∧ w.cell? ⟨b, 3, none⟩ = some (.bool r3) ∧ w.cell? ⟨b, 4, none⟩ = some (.bool r4)
theorem five_write {w : World} {b : Nat} {s0 s1 s2 s3 s4 : Bool} (h : FiveAt w b s0 s1 s2 s3 s4) (r0 r1 r2 r3 r4 : Bool) : FiveAt (((((w.setCell ⟨b, 0, none⟩ (.bool r0)).setCell ⟨b, 1, none⟩ (.bool r1)).setCell ⟨b, 2, none⟩ (.bool r2)).setCell ⟨b, 3, none⟩ (.bool r3)).setCell ⟨b, 4, none⟩ (.bool r4)) b r0 r1 r2 r3 r4 := by
  have ne : ∀ {x y : Nat}, x ≠ y → (⟨b, x, none⟩ : Addr) ≠ ⟨b, y, none⟩ := fun hxy e => hxy (congrArg Addr.off e)
  obtain ⟨h0, h1, h2, h3, h4⟩ := h
  refine ⟨?_, ?_, ?_, ?_, ?_⟩
  · rw [World.cell?_setCell_other _ _ _ _ (ne (by omega)), World.cell?_setCell_other _ _ _ _ (ne (by omega)), World.cell?_setCell_other _ _ _ _ (ne (by omega)), World.cell?_setCell_other _ _ _ _ (ne (by omega))]
    exact World.cell?_setCell_same _ _ _ h0
  · rw [World.cell?_setCell_other _ _ _ _ (ne (by omega)), World.cell?_setCell_other _ _ _ _ (ne (by omega)), World.cell?_setCell_other _ _ _ _ (ne (by omega))]
    exact World.cell?_setCell_same _ _ _ ((World.cell?_setCell_other _ _ _ _ (ne (by omega))).trans h1)
  · rw [World.cell?_setCell_other _ _ _ _ (ne (by omega)), World.cell?_setCell_other _ _ _ _ (ne (by omega))]
    exact World.cell?_setCell_same _ _ _ ((World.cell?_setCell_other _ _ _ _ (ne (by omega))).trans ((World.cell?_setCell_other _ _ _ _ (ne (by omega))).trans h2))
  · rw [World.cell?_setCell_other _ _ _ _ (ne (by omega))]
    exact World.cell?_setCell_same _ _ _ ((World.cell?_setCell_other _ _ _ _ (ne (by omega))).trans ((World.cell?_setCell_other _ _ _ _ (ne (by omega))).trans ((World.cell?_setCell_other _ _ _ _ (ne (by omega))).trans h3)))
  · exact World.cell?_setCell_same _ _ _ ((World.cell?_setCell_other _ _ _ _ (ne (by omega))).trans ((World.cell?_setCell_other _ _ _ _ (ne (by omega))).trans ((World.cell?_setCell_other _ _ _ _ (ne (by omega))).trans ((World.cell?_setCell_other _ _ _ _ (ne (by omega))).trans h4))))
theorem five_below {w w0 : World} {B b : Nat} (hB : Below B w0 w) (hb : B ≤ b) (r0 r1 r2 r3 r4 : Bool) : Below B w0 (((((w.setCell ⟨b, 0, none⟩ (.bool r0)).setCell ⟨b, 1, none⟩ (.bool r1)).setCell ⟨b, 2, none⟩ (.bool r2)).setCell ⟨b, 3, none⟩ (.bool r3)).setCell ⟨b, 4, none⟩ (.bool r4)) :=
  ((((hB.setCell hb _).setCell hb _).setCell hb _).setCell hb _).setCell hb _
def LookAt (w : World) (b0 : Nat) (m0 m1 m2 m3 m4 a b p m t f : Int) (v : Bool) : Prop :=
  w.cell? ⟨b0, 0, none⟩ = some (.int .i32 m0) ∧ w.cell? ⟨b0, 1, none⟩ = some (.int .i32 m1) ∧ w.cell? ⟨b0, 2, none⟩ = some (.int .i32 m2) ∧ w.cell? ⟨b0, 3, none⟩ = some (.int .i32 m3) ∧
  w.cell? ⟨b0 + 1, 0, none⟩ = some (.int .i32 a) ∧ w.cell? ⟨b0 + 1, 1, none⟩ = some (.int .i32 b) ∧ w.cell? ⟨b0 + 1, 2, none⟩ = some (.int .i32 p) ∧ w.cell? ⟨b0 + 1, 3, none⟩ = some (.int .i32 m) ∧
  w.cell? ⟨b0 + 1, 4, none⟩ = some (.int .i32 t) ∧ w.cell? ⟨b0 + 1, 5, none⟩ = some (.int .i32 f) ∧ w.cell? ⟨b0 + 1, 6, none⟩ = some (.bool v) ∧
  w.cell? ⟨b0 + 1 + 1, 0, none⟩ = some (.bool false) ∧ w.cell? ⟨b0 + 1 + 1, 1, none⟩ = some (.bool false) ∧ w.cell? ⟨b0 + 1 + 1, 2, none⟩ = some (.bool false) ∧ w.cell? ⟨b0 + 1 + 1, 3, none⟩ = some (.bool false) ∧ w.cell? ⟨b0 + 1 + 1, 4, none⟩ = some (.bool false) ∧
  b0 + 1 + 1 < w.heap.size ∧ (∀ o, w.frozen? ⟨b0 + 1 + 1, o, none⟩ = false)
theorem abs_is (a g : Int) (w : World) (h : sat32 (absI a) = g) (ha : -2147483648 ≤ a ∧ a ≤ 2147483647) :
    Calls Try.prog 29 #[.int .i32 a] w fun e w' => e = .returned (.int .i32 g) ∧ w = w' := by rw [← h]; exact abs_any a ha w
set_option maxHeartbeats 8000000 in
set_option maxRecDepth 100000 in
theorem look_is (m0 m1 m2 m3 m4 up down most a b p m t f : Int) (v r0 r1 r2 r3 r4 : Bool) (w : World) (hm0 : -2147483648 ≤ m0 ∧ m0 ≤ 2147483647) (hm1 : -2147483648 ≤ m1 ∧ m1 ≤ 2147483647) (hm2 : -2147483648 ≤ m2 ∧ m2 ≤ 2147483647) (hm3 : -2147483648 ≤ m3 ∧ m3 ≤ 2147483647) (hm4 : -2147483648 ≤ m4 ∧ m4 ≤ 2147483647) (ha : -2147483648 ≤ a ∧ a ≤ 2147483647) (hb : -2147483648 ≤ b ∧ b ≤ 2147483647) (hp : -2147483648 ≤ p ∧ p ≤ 2147483647) (hm : -2147483648 ≤ m ∧ m ≤ 2147483647) (ht : -2147483648 ≤ t ∧ t ≤ 2147483647) (hf : -2147483648 ≤ f ∧ f ≤ 2147483647) (e0 : offB a b m0 = r0) (e1 : offB p m m1 = r1) (e2 : offB p t m2 = r2) (e3 : forceB f m3 = r3) (e4 : (!v) = r4) :
    Calls Try.prog 13 #[watchV m0 m1 m2 m3 m4 up down most, laneV a b p m t f v] w fun e w' => e = .returned (.agg #[.bool r0, .bool r1, .bool r2, .bool r3, .bool r4]) ∧ Below w.heap.size w w' := by
  have E0 := Lib.hid e0; have E1 := Lib.hid e1; have E2 := Lib.hid e2; have E3 := Lib.hid e3; have E4 := Lib.hid e4
  obtain ⟨g, hg⟩ : ∃ g, sat32 (absI f) = g := ⟨_, rfl⟩
  have hgb : -2147483648 ≤ g ∧ g ≤ 2147483647 := by rw [← hg]; exact sat32_bd _
  have HG := Lib.hid hg
  have hr3 : decide (m3 < g) = r3 := by rw [← e3, ← hg]; rfl
  have HR3 := Lib.hid hr3
  clear e0 e1 e2 e3 e4 hg hr3
  have hcells : LookAt (((w.alloc (.cells #[.int .i32 m0, .int .i32 m1, .int .i32 m2, .int .i32 m3, .int .i32 m4, .int .i64 up, .int .i64 down, .int .i64 most] 38)).alloc (.cells #[.int .i32 a, .int .i32 b, .int .i32 p, .int .i32 m, .int .i32 t, .int .i32 f, .bool v] 40)).alloc (.cells #[.bool false, .bool false, .bool false, .bool false, .bool false] 41)) w.heap.size m0 m1 m2 m3 m4 a b p m t f v := ⟨by go_simp, by go_simp, by go_simp, by go_simp, by go_simp, by go_simp, by go_simp, by go_simp, by go_simp, by go_simp, by go_simp, by go_simp, by go_simp, by go_simp, by go_simp, by go_simp, by go_simp, fun o => by go_simp⟩
  have hB : Below w.heap.size w (((w.alloc (.cells #[.int .i32 m0, .int .i32 m1, .int .i32 m2, .int .i32 m3, .int .i32 m4, .int .i64 up, .int .i64 down, .int .i64 most] 38)).alloc (.cells #[.int .i32 a, .int .i32 b, .int .i32 p, .int .i32 m, .int .i32 t, .int .i32 f, .bool v] 40)).alloc (.cells #[.bool false, .bool false, .bool false, .bool false, .bool false] 41)) := by repeat (first | with_reducible exact Below.refl _ _ | ((with_reducible refine Below.setCell ?_ ?_ _); rotate_left; (· first | (simp; done) | omega | (simp; omega))) | with_reducible refine below_drewN ?_ _ | with_reducible refine Below.drew ?_ | ((with_reducible refine Below.alloc ?_ ?_ _); rotate_left; (· first | (simp; done) | omega | (simp; omega))) | exact Below.refl _ _ | refine Below.setCell ?_ (by first | (simp; done) | omega | (simp; omega)) _ | refine below_drewN ?_ _ | refine Below.drew ?_ | refine Below.alloc ?_ (by first | (simp; done) | omega | (simp; omega)) _)
  have HB := Lib.hid hB; have HC := Lib.hid hcells
  clear hB hcells
  go_enter Try.func13, Try.ntmps13
  go_wp2
  generalize ((w.alloc (.cells #[.int .i32 m0, .int .i32 m1, .int .i32 m2, .int .i32 m3, .int .i32 m4, .int .i64 up, .int .i64 down, .int .i64 most] 38)).alloc (.cells #[.int .i32 a, .int .i32 b, .int .i32 p, .int .i32 m, .int .i32 t, .int .i32 f, .bool v] 40)).alloc (.cells #[.bool false, .bool false, .bool false, .bool false, .bool false] 41) = W0 at *
  obtain ⟨c0, c1, c2, c3, d0, d1, d2, d3, d4, d5, d6, g0, g1, g2, g3, g4, gz, gf⟩ := HC.out
  refine wp_region_still_tail 35 (by kernel_rfl) (by kernel_rfl) ?_
  simp only [List.take_succ_cons, List.take_zero, List.drop_succ_cons, List.drop_zero]
  repeat still_step
  still_call (stillL (off_any _ _ _ _ ha hb hm0))
  repeat still_step
  still_call (stillL (off_any _ _ _ _ hp hm hm1))
  repeat still_step
  still_call (stillL (off_any _ _ _ _ hp ht hm2))
  repeat still_step
  still_call (stillL (abs_is _ _ _ HG.out hf))
  repeat still_step
  refine wpStill_nil ?_
  change wpList _ _ _ _ _ W0.drew
  rw [E0.out, E1.out, E2.out, HR3.out, E4.out]
  go_wp2
  have hW := five_write (w := W0) ⟨g0, g1, g2, g3, g4⟩ r0 r1 r2 r3 r4
  have hB9 := five_below (w := W0) HB.out (show w.heap.size ≤ w.heap.size + 1 + 1 by omega) r0 r1 r2 r3 r4
  obtain ⟨x0, x1, x2, x3, x4⟩ := hW
  clear c0 c1 c2 c3 d0 d1 d2 d3 d4 d5 d6 g0 g1 g2 g3 g4 gf
  generalize ((((W0.setCell _ _).setCell _ _).setCell _ _).setCell _ _).setCell _ _ = w9 at x0 x1 x2 x3 x4 hB9 ⊢
  exact bodyPost_ret (v := .agg #[.bool r0, .bool r1, .bool r2, .bool r3, .bool r4]) (by simp [results, Try.results13, go_sem, x0, x1, x2, x3, x4]) rfl ⟨rfl, hB9.drew⟩

end Go.Proofs.Ytijoalaijkobpaa
