/- What the functions of package past compute. -/
import Derived.Test.YtglagndpholejaaRecs
import Derived.Lib.Hide
import Derived.Laws.MakeOwn
import Derived.OwnWalk
import Derived.BigQuiet
import Derived.Deep.QuietTactic
import Derived.StillTailTactics
namespace Go.Proofs.Ytglagndpholejaa
open Go.ChangeShapes Go.WideShapes Go.ChangeAt Go.RowKit
set_option linter.unusedVariables false

abbrev PastR := Int × Int × Int
def pastLay (x : PastR) : List Value := [.int .i64 x.1, .int .i64 x.2.1, .int .i64 x.2.2]
def pastFit (x : PastR) : Prop := True
theorem pastLay_len (x : PastR) : (pastLay x).length = 3 := rfl
theorem past_dec {H : Type} {enc : TypeId × Value → H} {w : World} {base : Nat} {held : Bool} (r : List Value) (h : Open.Leafs enc Try.prog w base (fun _ => true) held [3, 3, 3] r) : ∃ x, r = pastLay x ∧ pastFit x := by
  obtain ⟨c0, r0, rfl, y0, h0⟩ := Open.leafs_cons h
  obtain ⟨c1, r1, rfl, y1, h1⟩ := Open.leafs_cons h0
  obtain ⟨c2, r2, rfl, y2, h2⟩ := Open.leafs_cons h1
  obtain rfl := Open.leafs_nil h2
  obtain ⟨a, rfl, -⟩ := Open.leaf_int Try.underlying3 y0
  obtain ⟨b, rfl, -⟩ := Open.leaf_int Try.underlying3 y1
  obtain ⟨c, rfl, -⟩ := Open.leaf_int Try.underlying3 y2
  exact ⟨(a, b, c), rfl, trivial⟩
/-- a sentence in its place is right -/
def pOk (i : Nat) (x : PastR) : Prop :=
  (x.1 = 1 ∧ 0 ≤ x.2.1 ∧ x.2.1 ≤ 7 ∧ x.2.2 = 0) ∨ ((x.1 = 2 ∨ x.1 = 3 ∨ x.1 = 4 ∨ x.1 = 5) ∧ x.2.2 = 0 ∧ 0 ≤ x.2.1 ∧ x.2.1 < i) ∨
  ((x.1 = 6 ∨ x.1 = 7 ∨ x.1 = 8) ∧ 0 ≤ x.2.1 ∧ x.2.1 < i ∧ 0 ≤ x.2.2 ∧ x.2.2 < i)
def PastOk (xs : List PastR) : Prop := 1 ≤ xs.length ∧ xs.length ≤ 20 ∧ ∀ i x, xs[i]? = some x → pOk i x
def pastE (xs : List PastR) : Int := if xs.length < 1 ∨ 20 < xs.length then 2 else 4
theorem pastE_ne (xs : List PastR) : pastE xs ≠ 0 := by unfold pastE; split <;> decide
theorem pastE_bd (xs : List PastR) : 2 ≤ pastE xs ∧ pastE xs ≤ 4 := by unfold pastE; split <;> decide
def FrontOk (xs : List PastR) (k : Nat) : Prop := ∀ i x, i < k → xs[i]? = some x → pOk i x
theorem FrontOk.zero (xs : List PastR) : FrontOk xs 0 := fun i x hi => absurd hi (by omega)
theorem FrontOk.step {xs : List PastR} {k : Nat} {x : PastR} (h : FrontOk xs k) (hx : xs[k]? = some x) (hk : pOk k x) : FrontOk xs (k + 1) := fun i y hi hy => by
  by_cases e : i = k
  · subst e; rw [hx] at hy; cases hy; exact hk
  · exact h i y (by omega) hy
theorem FrontOk.all {xs : List PastR} (h : FrontOk xs xs.length) (i : Nat) (x : PastR) (hx : xs[i]? = some x) : pOk i x := by
  refine h i x ?_ hx
  rcases Nat.lt_or_ge i xs.length with h | h
  · exact h
  · rw [List.getElem?_eq_none h] at hx; cases hx
def PCRel (xs : List PastR) (w : World) (i : Value) (wr : World) : Prop := ∃ k : Nat, k ≤ xs.length ∧ i = .int .i64 k ∧ FrontOk xs k ∧ Below w.heap.size w wr
def PCPost (xs : List PastR) (w : World) (e : Ending) (w' : World) : Prop := (PastOk xs → e = .returned (.int .i64 0)) ∧ (¬ PastOk xs → e = .returned (.int .i64 (pastE xs))) ∧ Below w.heap.size w w'
theorem pOk_kind {i : Nat} {x : PastR} (h : ¬ (x.1 = 1 ∨ x.1 = 2 ∨ x.1 = 3 ∨ x.1 = 4 ∨ x.1 = 5 ∨ x.1 = 6 ∨ x.1 = 7 ∨ x.1 = 8)) : ¬ pOk i x := by
  unfold pOk; omega
theorem past_no {xs : List PastR} {k : Nat} {x : PastR} (hx : xs[k]? = some x) (h : ¬ pOk k x) : ¬ PastOk xs := fun ⟨_, _, g⟩ => h (g k x hx)
set_option maxHeartbeats 4000000 in
theorem pastCheck_any (xs : List PastR) (v : Value) (w : World) (hv : RecsAt 3 pastLay w v xs) (hm : xs.length ≤ 9223372036854775807) :
    Calls Try.prog 55 #[v] w (PCPost xs w) := by
  obtain ⟨a, cap, rfl⟩ := hv.len
  have HV := Lib.hid hv
  clear hv
  by_cases h1 : xs.length < 1
  · have N : ¬ PastOk xs := fun h => absurd h.1 (by omega)
    have P : Hid (pastE xs = 2) := if_pos (.inl h1)
    have HN := Lib.hid N
    have d1 : decide ((xs.length : Int) < 1) = true := by simp; omega
    clear h1 N
    go_enter Try.func55, Try.ntmps55
    go_wp2
    go_ret
    exact ⟨fun h => absurd h HN.out, fun _ => by rw [P.out]; rfl, Below.refl _ _⟩
  by_cases h2 : 20 < xs.length
  · have N : ¬ PastOk xs := fun h => absurd h.2.1 (by omega)
    have P : Hid (pastE xs = 2) := if_pos (.inr h2)
    have HN := Lib.hid N
    have d1 : decide ((xs.length : Int) < 1) = false := by simp; omega
    have d2 : decide (20 < (xs.length : Int)) = true := by simp; omega
    clear h1 h2 N
    go_enter Try.func55, Try.ntmps55
    go_wp2
    go_ret
    exact ⟨fun h => absurd h HN.out, fun _ => by rw [P.out]; rfl, Below.refl _ _⟩
  have P : Hid (pastE xs = 4) := if_neg (by omega)
  have d1 : decide ((xs.length : Int) < 1) = false := by simp; omega
  have d2 : decide (20 < (xs.length : Int)) = false := by simp; omega
  have h3 : 1 ≤ xs.length := by omega
  have h4 : xs.length ≤ 20 := by omega
  clear h1 h2
  go_enter Try.func55, Try.ntmps55
  go_wp2
  clear d1 d2
  go_loopw [17] (fun i wr => PCRel xs w i wr) (fun i _ => xs.length - (intOf i).toNat)
  case atStart => exact ⟨0, Nat.zero_le _, rfl, FrontOk.zero _, Below.refl _ _⟩
  case round =>
    obtain ⟨k, hk, rfl, hfr, hB⟩ := hrel
    have HF := Lib.hid hfr
    have zB := hB.size
    clear hfr
    by_cases hlt : k < xs.length
    · obtain ⟨x, hx⟩ : ∃ x, xs[k]? = some x := ⟨_, List.getElem?_eq_getElem hlt⟩
      obtain ⟨b, off, cap', hv', hl1, hl2, hc⟩ := HV.out.at_ hx
      cases hv'
      obtain ⟨kd, A, B⟩ := x
      have HX := Lib.hid hx
      have c0 := cell_later hB (hc 0 (by omega))
      have c1 := cell_later hB (hc 1 (by omega))
      have c2 := cell_later hB (hc 2 (by omega))
      change wr.cell? ⟨b, off + k * 3, none⟩ = some (.int .i64 kd) at c0
      change wr.cell? ⟨b, off + k * 3 + 1, none⟩ = some (.int .i64 A) at c1
      change wr.cell? ⟨b, off + k * 3 + 2, none⟩ = some (.int .i64 B) at c2
      clear hc hx
      have stop : ¬ pOk k (kd, A, B) → Hid (¬ PastOk xs) := fun h => past_no HX.out h
      by_cases hp : pOk k (kd, A, B)
      · have HP := Lib.hid hp
        simp only [pOk] at hp
        clear stop
        have hkd : kd = 1 ∨ kd = 2 ∨ kd = 3 ∨ kd = 4 ∨ kd = 5 ∨ kd = 6 ∨ kd = 7 ∨ kd = 8 := by omega
        rcases hkd with rfl | rfl | rfl | rfl | rfl | rfl | rfl | rfl
        · obtain ⟨a1, a2, rfl⟩ : 0 ≤ A ∧ A ≤ 7 ∧ B = 0 := by omega
          have t1 : decide (A < 0) = false := by simpa using a1
          have t2 : decide (7 < A) = false := by simpa using a2
          clear hp
          go_wp2
          go_roundw
          case rel => exact ⟨k + 1, by omega, by go_num, HF.out.step HX.out HP.out, by repeat (first | with_reducible exact Below.refl _ _ | with_reducible exact hB | ((with_reducible refine Below.setCell ?_ ?_ _); rotate_left; (· first | (simp; done) | omega | (simp; omega))) | with_reducible refine below_drewN ?_ _ | with_reducible refine Below.drew ?_ | ((with_reducible refine Below.alloc ?_ ?_ _); rotate_left; (· first | (simp; done) | omega | (simp; omega))) | exact Below.refl _ _ | exact hB | refine Below.setCell ?_ (by first | (simp; done) | omega | (simp; omega)) _ | refine below_drewN ?_ _ | refine Below.drew ?_ | refine Below.alloc ?_ (by first | (simp; done) | omega | (simp; omega)) _)⟩
          case measure => simp [intOf]; omega
        · obtain ⟨a1, a2, rfl⟩ : 0 ≤ A ∧ A < k ∧ B = 0 := by omega
          have t1 : decide (A < 0) = false := by simpa using a1
          have t2 : decide ((k : Int) ≤ A) = false := by simpa using a2
          have t3 : decide ((k : Int) ≤ 0) = false := by simp; omega
          clear hp
          go_wp2
          go_roundw
          case rel => exact ⟨k + 1, by omega, by go_num, HF.out.step HX.out HP.out, by repeat (first | with_reducible exact Below.refl _ _ | with_reducible exact hB | ((with_reducible refine Below.setCell ?_ ?_ _); rotate_left; (· first | (simp; done) | omega | (simp; omega))) | with_reducible refine below_drewN ?_ _ | with_reducible refine Below.drew ?_ | ((with_reducible refine Below.alloc ?_ ?_ _); rotate_left; (· first | (simp; done) | omega | (simp; omega))) | exact Below.refl _ _ | exact hB | refine Below.setCell ?_ (by first | (simp; done) | omega | (simp; omega)) _ | refine below_drewN ?_ _ | refine Below.drew ?_ | refine Below.alloc ?_ (by first | (simp; done) | omega | (simp; omega)) _)⟩
          case measure => simp [intOf]; omega
        · obtain ⟨a1, a2, rfl⟩ : 0 ≤ A ∧ A < k ∧ B = 0 := by omega
          have t1 : decide (A < 0) = false := by simpa using a1
          have t2 : decide ((k : Int) ≤ A) = false := by simpa using a2
          have t3 : decide ((k : Int) ≤ 0) = false := by simp; omega
          clear hp
          go_wp2
          go_roundw
          case rel => exact ⟨k + 1, by omega, by go_num, HF.out.step HX.out HP.out, by repeat (first | with_reducible exact Below.refl _ _ | with_reducible exact hB | ((with_reducible refine Below.setCell ?_ ?_ _); rotate_left; (· first | (simp; done) | omega | (simp; omega))) | with_reducible refine below_drewN ?_ _ | with_reducible refine Below.drew ?_ | ((with_reducible refine Below.alloc ?_ ?_ _); rotate_left; (· first | (simp; done) | omega | (simp; omega))) | exact Below.refl _ _ | exact hB | refine Below.setCell ?_ (by first | (simp; done) | omega | (simp; omega)) _ | refine below_drewN ?_ _ | refine Below.drew ?_ | refine Below.alloc ?_ (by first | (simp; done) | omega | (simp; omega)) _)⟩
          case measure => simp [intOf]; omega
        · obtain ⟨a1, a2, rfl⟩ : 0 ≤ A ∧ A < k ∧ B = 0 := by omega
          have t1 : decide (A < 0) = false := by simpa using a1
          have t2 : decide ((k : Int) ≤ A) = false := by simpa using a2
          have t3 : decide ((k : Int) ≤ 0) = false := by simp; omega
          clear hp
          go_wp2
          go_roundw
          case rel => exact ⟨k + 1, by omega, by go_num, HF.out.step HX.out HP.out, by repeat (first | with_reducible exact Below.refl _ _ | with_reducible exact hB | ((with_reducible refine Below.setCell ?_ ?_ _); rotate_left; (· first | (simp; done) | omega | (simp; omega))) | with_reducible refine below_drewN ?_ _ | with_reducible refine Below.drew ?_ | ((with_reducible refine Below.alloc ?_ ?_ _); rotate_left; (· first | (simp; done) | omega | (simp; omega))) | exact Below.refl _ _ | exact hB | refine Below.setCell ?_ (by first | (simp; done) | omega | (simp; omega)) _ | refine below_drewN ?_ _ | refine Below.drew ?_ | refine Below.alloc ?_ (by first | (simp; done) | omega | (simp; omega)) _)⟩
          case measure => simp [intOf]; omega
        · obtain ⟨a1, a2, rfl⟩ : 0 ≤ A ∧ A < k ∧ B = 0 := by omega
          have t1 : decide (A < 0) = false := by simpa using a1
          have t2 : decide ((k : Int) ≤ A) = false := by simpa using a2
          have t3 : decide ((k : Int) ≤ 0) = false := by simp; omega
          clear hp
          go_wp2
          go_roundw
          case rel => exact ⟨k + 1, by omega, by go_num, HF.out.step HX.out HP.out, by repeat (first | with_reducible exact Below.refl _ _ | with_reducible exact hB | ((with_reducible refine Below.setCell ?_ ?_ _); rotate_left; (· first | (simp; done) | omega | (simp; omega))) | with_reducible refine below_drewN ?_ _ | with_reducible refine Below.drew ?_ | ((with_reducible refine Below.alloc ?_ ?_ _); rotate_left; (· first | (simp; done) | omega | (simp; omega))) | exact Below.refl _ _ | exact hB | refine Below.setCell ?_ (by first | (simp; done) | omega | (simp; omega)) _ | refine below_drewN ?_ _ | refine Below.drew ?_ | refine Below.alloc ?_ (by first | (simp; done) | omega | (simp; omega)) _)⟩
          case measure => simp [intOf]; omega
        · obtain ⟨a1, a2, b1, b2⟩ : 0 ≤ A ∧ A < k ∧ 0 ≤ B ∧ B < k := by omega
          have t1 : decide (A < 0) = false := by simpa using a1
          have t2 : decide ((k : Int) ≤ A) = false := by simpa using a2
          have t3 : decide (B < 0) = false := by simpa using b1
          have t4 : decide ((k : Int) ≤ B) = false := by simpa using b2
          clear hp
          go_wp2
          go_quiet (fail)
          go_wp2
          go_roundw
          case rel => exact ⟨k + 1, by omega, by go_num, HF.out.step HX.out HP.out, by repeat (first | with_reducible exact Below.refl _ _ | with_reducible exact hB | ((with_reducible refine Below.setCell ?_ ?_ _); rotate_left; (· first | (simp; done) | omega | (simp; omega))) | with_reducible refine below_drewN ?_ _ | with_reducible refine Below.drew ?_ | ((with_reducible refine Below.alloc ?_ ?_ _); rotate_left; (· first | (simp; done) | omega | (simp; omega))) | exact Below.refl _ _ | exact hB | refine Below.setCell ?_ (by first | (simp; done) | omega | (simp; omega)) _ | refine below_drewN ?_ _ | refine Below.drew ?_ | refine Below.alloc ?_ (by first | (simp; done) | omega | (simp; omega)) _)⟩
          case measure => simp [intOf]; omega
        · obtain ⟨a1, a2, b1, b2⟩ : 0 ≤ A ∧ A < k ∧ 0 ≤ B ∧ B < k := by omega
          have t1 : decide (A < 0) = false := by simpa using a1
          have t2 : decide ((k : Int) ≤ A) = false := by simpa using a2
          have t3 : decide (B < 0) = false := by simpa using b1
          have t4 : decide ((k : Int) ≤ B) = false := by simpa using b2
          clear hp
          go_wp2
          go_quiet (fail)
          go_wp2
          go_roundw
          case rel => exact ⟨k + 1, by omega, by go_num, HF.out.step HX.out HP.out, by repeat (first | with_reducible exact Below.refl _ _ | with_reducible exact hB | ((with_reducible refine Below.setCell ?_ ?_ _); rotate_left; (· first | (simp; done) | omega | (simp; omega))) | with_reducible refine below_drewN ?_ _ | with_reducible refine Below.drew ?_ | ((with_reducible refine Below.alloc ?_ ?_ _); rotate_left; (· first | (simp; done) | omega | (simp; omega))) | exact Below.refl _ _ | exact hB | refine Below.setCell ?_ (by first | (simp; done) | omega | (simp; omega)) _ | refine below_drewN ?_ _ | refine Below.drew ?_ | refine Below.alloc ?_ (by first | (simp; done) | omega | (simp; omega)) _)⟩
          case measure => simp [intOf]; omega
        · obtain ⟨a1, a2, b1, b2⟩ : 0 ≤ A ∧ A < k ∧ 0 ≤ B ∧ B < k := by omega
          have t1 : decide (A < 0) = false := by simpa using a1
          have t2 : decide ((k : Int) ≤ A) = false := by simpa using a2
          have t3 : decide (B < 0) = false := by simpa using b1
          have t4 : decide ((k : Int) ≤ B) = false := by simpa using b2
          clear hp
          go_wp2
          go_quiet (fail)
          go_wp2
          go_roundw
          case rel => exact ⟨k + 1, by omega, by go_num, HF.out.step HX.out HP.out, by repeat (first | with_reducible exact Below.refl _ _ | with_reducible exact hB | ((with_reducible refine Below.setCell ?_ ?_ _); rotate_left; (· first | (simp; done) | omega | (simp; omega))) | with_reducible refine below_drewN ?_ _ | with_reducible refine Below.drew ?_ | ((with_reducible refine Below.alloc ?_ ?_ _); rotate_left; (· first | (simp; done) | omega | (simp; omega))) | exact Below.refl _ _ | exact hB | refine Below.setCell ?_ (by first | (simp; done) | omega | (simp; omega)) _ | refine below_drewN ?_ _ | refine Below.drew ?_ | refine Below.alloc ?_ (by first | (simp; done) | omega | (simp; omega)) _)⟩
          case measure => simp [intOf]; omega
      · have HS := Lib.hid (stop hp).out
        clear stop
        simp only [pOk] at hp
        by_cases hkd : kd = 1 ∨ kd = 2 ∨ kd = 3 ∨ kd = 4 ∨ kd = 5 ∨ kd = 6 ∨ kd = 7 ∨ kd = 8
        · rcases hkd with rfl | rfl | rfl | rfl | rfl | rfl | rfl | rfl
          · rcases (by omega : A < 0 ∨ (0 ≤ A ∧ 7 < A) ∨ (0 ≤ A ∧ A ≤ 7 ∧ B ≠ 0)) with g1 | ⟨g1, g2⟩ | ⟨g1, g2, g3⟩
            · have t1 : decide (A < 0) = true := by simpa using g1
              clear hp
              go_wp2
              go_ret
              exact ⟨fun h => absurd h HS.out, fun _ => by rw [P.out]; rfl, by repeat (first | with_reducible exact Below.refl _ _ | with_reducible exact hB | ((with_reducible refine Below.setCell ?_ ?_ _); rotate_left; (· first | (simp; done) | omega | (simp; omega))) | with_reducible refine below_drewN ?_ _ | with_reducible refine Below.drew ?_ | ((with_reducible refine Below.alloc ?_ ?_ _); rotate_left; (· first | (simp; done) | omega | (simp; omega))) | exact Below.refl _ _ | exact hB | refine Below.setCell ?_ (by first | (simp; done) | omega | (simp; omega)) _ | refine below_drewN ?_ _ | refine Below.drew ?_ | refine Below.alloc ?_ (by first | (simp; done) | omega | (simp; omega)) _)⟩
            · have t1 : decide (A < 0) = false := by simpa using g1
              have t2 : decide (7 < A) = true := by simpa using g2
              clear hp
              go_wp2
              go_ret
              exact ⟨fun h => absurd h HS.out, fun _ => by rw [P.out]; rfl, by repeat (first | with_reducible exact Below.refl _ _ | with_reducible exact hB | ((with_reducible refine Below.setCell ?_ ?_ _); rotate_left; (· first | (simp; done) | omega | (simp; omega))) | with_reducible refine below_drewN ?_ _ | with_reducible refine Below.drew ?_ | ((with_reducible refine Below.alloc ?_ ?_ _); rotate_left; (· first | (simp; done) | omega | (simp; omega))) | exact Below.refl _ _ | exact hB | refine Below.setCell ?_ (by first | (simp; done) | omega | (simp; omega)) _ | refine below_drewN ?_ _ | refine Below.drew ?_ | refine Below.alloc ?_ (by first | (simp; done) | omega | (simp; omega)) _)⟩
            · have t1 : decide (A < 0) = false := by simpa using g1
              have t2 : decide (7 < A) = false := by simpa using g2
              have t3 : (B != 0) = true := by simpa using g3
              clear hp g3
              go_wp2
              go_ret
              exact ⟨fun h => absurd h HS.out, fun _ => by rw [P.out]; rfl, by repeat (first | with_reducible exact Below.refl _ _ | with_reducible exact hB | ((with_reducible refine Below.setCell ?_ ?_ _); rotate_left; (· first | (simp; done) | omega | (simp; omega))) | with_reducible refine below_drewN ?_ _ | with_reducible refine Below.drew ?_ | ((with_reducible refine Below.alloc ?_ ?_ _); rotate_left; (· first | (simp; done) | omega | (simp; omega))) | exact Below.refl _ _ | exact hB | refine Below.setCell ?_ (by first | (simp; done) | omega | (simp; omega)) _ | refine below_drewN ?_ _ | refine Below.drew ?_ | refine Below.alloc ?_ (by first | (simp; done) | omega | (simp; omega)) _)⟩
          · rcases (by omega : B ≠ 0 ∨ (B = 0 ∧ A < 0) ∨ (B = 0 ∧ 0 ≤ A ∧ k ≤ A)) with g1 | ⟨rfl, g1⟩ | ⟨rfl, g1, g2⟩
            · have t3 : (B != 0) = true := by simpa using g1
              clear hp g1
              go_wp2
              go_ret
              exact ⟨fun h => absurd h HS.out, fun _ => by rw [P.out]; rfl, by repeat (first | with_reducible exact Below.refl _ _ | with_reducible exact hB | ((with_reducible refine Below.setCell ?_ ?_ _); rotate_left; (· first | (simp; done) | omega | (simp; omega))) | with_reducible refine below_drewN ?_ _ | with_reducible refine Below.drew ?_ | ((with_reducible refine Below.alloc ?_ ?_ _); rotate_left; (· first | (simp; done) | omega | (simp; omega))) | exact Below.refl _ _ | exact hB | refine Below.setCell ?_ (by first | (simp; done) | omega | (simp; omega)) _ | refine below_drewN ?_ _ | refine Below.drew ?_ | refine Below.alloc ?_ (by first | (simp; done) | omega | (simp; omega)) _)⟩
            · have t1 : decide (A < 0) = true := by simpa using g1
              clear hp
              go_wp2
              go_ret
              exact ⟨fun h => absurd h HS.out, fun _ => by rw [P.out]; rfl, by repeat (first | with_reducible exact Below.refl _ _ | with_reducible exact hB | ((with_reducible refine Below.setCell ?_ ?_ _); rotate_left; (· first | (simp; done) | omega | (simp; omega))) | with_reducible refine below_drewN ?_ _ | with_reducible refine Below.drew ?_ | ((with_reducible refine Below.alloc ?_ ?_ _); rotate_left; (· first | (simp; done) | omega | (simp; omega))) | exact Below.refl _ _ | exact hB | refine Below.setCell ?_ (by first | (simp; done) | omega | (simp; omega)) _ | refine below_drewN ?_ _ | refine Below.drew ?_ | refine Below.alloc ?_ (by first | (simp; done) | omega | (simp; omega)) _)⟩
            · have t1 : decide (A < 0) = false := by simpa using g1
              have t2 : decide ((k : Int) ≤ A) = true := by simpa using g2
              clear hp
              go_wp2
              go_ret
              exact ⟨fun h => absurd h HS.out, fun _ => by rw [P.out]; rfl, by repeat (first | with_reducible exact Below.refl _ _ | with_reducible exact hB | ((with_reducible refine Below.setCell ?_ ?_ _); rotate_left; (· first | (simp; done) | omega | (simp; omega))) | with_reducible refine below_drewN ?_ _ | with_reducible refine Below.drew ?_ | ((with_reducible refine Below.alloc ?_ ?_ _); rotate_left; (· first | (simp; done) | omega | (simp; omega))) | exact Below.refl _ _ | exact hB | refine Below.setCell ?_ (by first | (simp; done) | omega | (simp; omega)) _ | refine below_drewN ?_ _ | refine Below.drew ?_ | refine Below.alloc ?_ (by first | (simp; done) | omega | (simp; omega)) _)⟩
          · rcases (by omega : B ≠ 0 ∨ (B = 0 ∧ A < 0) ∨ (B = 0 ∧ 0 ≤ A ∧ k ≤ A)) with g1 | ⟨rfl, g1⟩ | ⟨rfl, g1, g2⟩
            · have t3 : (B != 0) = true := by simpa using g1
              clear hp g1
              go_wp2
              go_ret
              exact ⟨fun h => absurd h HS.out, fun _ => by rw [P.out]; rfl, by repeat (first | with_reducible exact Below.refl _ _ | with_reducible exact hB | ((with_reducible refine Below.setCell ?_ ?_ _); rotate_left; (· first | (simp; done) | omega | (simp; omega))) | with_reducible refine below_drewN ?_ _ | with_reducible refine Below.drew ?_ | ((with_reducible refine Below.alloc ?_ ?_ _); rotate_left; (· first | (simp; done) | omega | (simp; omega))) | exact Below.refl _ _ | exact hB | refine Below.setCell ?_ (by first | (simp; done) | omega | (simp; omega)) _ | refine below_drewN ?_ _ | refine Below.drew ?_ | refine Below.alloc ?_ (by first | (simp; done) | omega | (simp; omega)) _)⟩
            · have t1 : decide (A < 0) = true := by simpa using g1
              clear hp
              go_wp2
              go_ret
              exact ⟨fun h => absurd h HS.out, fun _ => by rw [P.out]; rfl, by repeat (first | with_reducible exact Below.refl _ _ | with_reducible exact hB | ((with_reducible refine Below.setCell ?_ ?_ _); rotate_left; (· first | (simp; done) | omega | (simp; omega))) | with_reducible refine below_drewN ?_ _ | with_reducible refine Below.drew ?_ | ((with_reducible refine Below.alloc ?_ ?_ _); rotate_left; (· first | (simp; done) | omega | (simp; omega))) | exact Below.refl _ _ | exact hB | refine Below.setCell ?_ (by first | (simp; done) | omega | (simp; omega)) _ | refine below_drewN ?_ _ | refine Below.drew ?_ | refine Below.alloc ?_ (by first | (simp; done) | omega | (simp; omega)) _)⟩
            · have t1 : decide (A < 0) = false := by simpa using g1
              have t2 : decide ((k : Int) ≤ A) = true := by simpa using g2
              clear hp
              go_wp2
              go_ret
              exact ⟨fun h => absurd h HS.out, fun _ => by rw [P.out]; rfl, by repeat (first | with_reducible exact Below.refl _ _ | with_reducible exact hB | ((with_reducible refine Below.setCell ?_ ?_ _); rotate_left; (· first | (simp; done) | omega | (simp; omega))) | with_reducible refine below_drewN ?_ _ | with_reducible refine Below.drew ?_ | ((with_reducible refine Below.alloc ?_ ?_ _); rotate_left; (· first | (simp; done) | omega | (simp; omega))) | exact Below.refl _ _ | exact hB | refine Below.setCell ?_ (by first | (simp; done) | omega | (simp; omega)) _ | refine below_drewN ?_ _ | refine Below.drew ?_ | refine Below.alloc ?_ (by first | (simp; done) | omega | (simp; omega)) _)⟩
          · rcases (by omega : B ≠ 0 ∨ (B = 0 ∧ A < 0) ∨ (B = 0 ∧ 0 ≤ A ∧ k ≤ A)) with g1 | ⟨rfl, g1⟩ | ⟨rfl, g1, g2⟩
            · have t3 : (B != 0) = true := by simpa using g1
              clear hp g1
              go_wp2
              go_ret
              exact ⟨fun h => absurd h HS.out, fun _ => by rw [P.out]; rfl, by repeat (first | with_reducible exact Below.refl _ _ | with_reducible exact hB | ((with_reducible refine Below.setCell ?_ ?_ _); rotate_left; (· first | (simp; done) | omega | (simp; omega))) | with_reducible refine below_drewN ?_ _ | with_reducible refine Below.drew ?_ | ((with_reducible refine Below.alloc ?_ ?_ _); rotate_left; (· first | (simp; done) | omega | (simp; omega))) | exact Below.refl _ _ | exact hB | refine Below.setCell ?_ (by first | (simp; done) | omega | (simp; omega)) _ | refine below_drewN ?_ _ | refine Below.drew ?_ | refine Below.alloc ?_ (by first | (simp; done) | omega | (simp; omega)) _)⟩
            · have t1 : decide (A < 0) = true := by simpa using g1
              clear hp
              go_wp2
              go_ret
              exact ⟨fun h => absurd h HS.out, fun _ => by rw [P.out]; rfl, by repeat (first | with_reducible exact Below.refl _ _ | with_reducible exact hB | ((with_reducible refine Below.setCell ?_ ?_ _); rotate_left; (· first | (simp; done) | omega | (simp; omega))) | with_reducible refine below_drewN ?_ _ | with_reducible refine Below.drew ?_ | ((with_reducible refine Below.alloc ?_ ?_ _); rotate_left; (· first | (simp; done) | omega | (simp; omega))) | exact Below.refl _ _ | exact hB | refine Below.setCell ?_ (by first | (simp; done) | omega | (simp; omega)) _ | refine below_drewN ?_ _ | refine Below.drew ?_ | refine Below.alloc ?_ (by first | (simp; done) | omega | (simp; omega)) _)⟩
            · have t1 : decide (A < 0) = false := by simpa using g1
              have t2 : decide ((k : Int) ≤ A) = true := by simpa using g2
              clear hp
              go_wp2
              go_ret
              exact ⟨fun h => absurd h HS.out, fun _ => by rw [P.out]; rfl, by repeat (first | with_reducible exact Below.refl _ _ | with_reducible exact hB | ((with_reducible refine Below.setCell ?_ ?_ _); rotate_left; (· first | (simp; done) | omega | (simp; omega))) | with_reducible refine below_drewN ?_ _ | with_reducible refine Below.drew ?_ | ((with_reducible refine Below.alloc ?_ ?_ _); rotate_left; (· first | (simp; done) | omega | (simp; omega))) | exact Below.refl _ _ | exact hB | refine Below.setCell ?_ (by first | (simp; done) | omega | (simp; omega)) _ | refine below_drewN ?_ _ | refine Below.drew ?_ | refine Below.alloc ?_ (by first | (simp; done) | omega | (simp; omega)) _)⟩
          · rcases (by omega : B ≠ 0 ∨ (B = 0 ∧ A < 0) ∨ (B = 0 ∧ 0 ≤ A ∧ k ≤ A)) with g1 | ⟨rfl, g1⟩ | ⟨rfl, g1, g2⟩
            · have t3 : (B != 0) = true := by simpa using g1
              clear hp g1
              go_wp2
              go_ret
              exact ⟨fun h => absurd h HS.out, fun _ => by rw [P.out]; rfl, by repeat (first | with_reducible exact Below.refl _ _ | with_reducible exact hB | ((with_reducible refine Below.setCell ?_ ?_ _); rotate_left; (· first | (simp; done) | omega | (simp; omega))) | with_reducible refine below_drewN ?_ _ | with_reducible refine Below.drew ?_ | ((with_reducible refine Below.alloc ?_ ?_ _); rotate_left; (· first | (simp; done) | omega | (simp; omega))) | exact Below.refl _ _ | exact hB | refine Below.setCell ?_ (by first | (simp; done) | omega | (simp; omega)) _ | refine below_drewN ?_ _ | refine Below.drew ?_ | refine Below.alloc ?_ (by first | (simp; done) | omega | (simp; omega)) _)⟩
            · have t1 : decide (A < 0) = true := by simpa using g1
              clear hp
              go_wp2
              go_ret
              exact ⟨fun h => absurd h HS.out, fun _ => by rw [P.out]; rfl, by repeat (first | with_reducible exact Below.refl _ _ | with_reducible exact hB | ((with_reducible refine Below.setCell ?_ ?_ _); rotate_left; (· first | (simp; done) | omega | (simp; omega))) | with_reducible refine below_drewN ?_ _ | with_reducible refine Below.drew ?_ | ((with_reducible refine Below.alloc ?_ ?_ _); rotate_left; (· first | (simp; done) | omega | (simp; omega))) | exact Below.refl _ _ | exact hB | refine Below.setCell ?_ (by first | (simp; done) | omega | (simp; omega)) _ | refine below_drewN ?_ _ | refine Below.drew ?_ | refine Below.alloc ?_ (by first | (simp; done) | omega | (simp; omega)) _)⟩
            · have t1 : decide (A < 0) = false := by simpa using g1
              have t2 : decide ((k : Int) ≤ A) = true := by simpa using g2
              clear hp
              go_wp2
              go_ret
              exact ⟨fun h => absurd h HS.out, fun _ => by rw [P.out]; rfl, by repeat (first | with_reducible exact Below.refl _ _ | with_reducible exact hB | ((with_reducible refine Below.setCell ?_ ?_ _); rotate_left; (· first | (simp; done) | omega | (simp; omega))) | with_reducible refine below_drewN ?_ _ | with_reducible refine Below.drew ?_ | ((with_reducible refine Below.alloc ?_ ?_ _); rotate_left; (· first | (simp; done) | omega | (simp; omega))) | exact Below.refl _ _ | exact hB | refine Below.setCell ?_ (by first | (simp; done) | omega | (simp; omega)) _ | refine below_drewN ?_ _ | refine Below.drew ?_ | refine Below.alloc ?_ (by first | (simp; done) | omega | (simp; omega)) _)⟩
          · rcases (by omega : A < 0 ∨ (0 ≤ A ∧ k ≤ A) ∨ (0 ≤ A ∧ A < k ∧ B < 0) ∨ (0 ≤ A ∧ A < k ∧ 0 ≤ B ∧ k ≤ B)) with g1 | ⟨g1, g2⟩ | ⟨g1, g2, g3⟩ | ⟨g1, g2, g3, g4⟩
            · have t1 : decide (A < 0) = true := by simpa using g1
              clear hp
              go_wp2
              go_quiet (fail)
              go_wp2
              go_ret
              exact ⟨fun h => absurd h HS.out, fun _ => by rw [P.out]; rfl, by repeat (first | with_reducible exact Below.refl _ _ | with_reducible exact hB | ((with_reducible refine Below.setCell ?_ ?_ _); rotate_left; (· first | (simp; done) | omega | (simp; omega))) | with_reducible refine below_drewN ?_ _ | with_reducible refine Below.drew ?_ | ((with_reducible refine Below.alloc ?_ ?_ _); rotate_left; (· first | (simp; done) | omega | (simp; omega))) | exact Below.refl _ _ | exact hB | refine Below.setCell ?_ (by first | (simp; done) | omega | (simp; omega)) _ | refine below_drewN ?_ _ | refine Below.drew ?_ | refine Below.alloc ?_ (by first | (simp; done) | omega | (simp; omega)) _)⟩
            · have t1 : decide (A < 0) = false := by simpa using g1
              have t2 : decide ((k : Int) ≤ A) = true := by simpa using g2
              clear hp
              go_wp2
              go_quiet (fail)
              go_wp2
              go_ret
              exact ⟨fun h => absurd h HS.out, fun _ => by rw [P.out]; rfl, by repeat (first | with_reducible exact Below.refl _ _ | with_reducible exact hB | ((with_reducible refine Below.setCell ?_ ?_ _); rotate_left; (· first | (simp; done) | omega | (simp; omega))) | with_reducible refine below_drewN ?_ _ | with_reducible refine Below.drew ?_ | ((with_reducible refine Below.alloc ?_ ?_ _); rotate_left; (· first | (simp; done) | omega | (simp; omega))) | exact Below.refl _ _ | exact hB | refine Below.setCell ?_ (by first | (simp; done) | omega | (simp; omega)) _ | refine below_drewN ?_ _ | refine Below.drew ?_ | refine Below.alloc ?_ (by first | (simp; done) | omega | (simp; omega)) _)⟩
            · have t1 : decide (A < 0) = false := by simpa using g1
              have t2 : decide ((k : Int) ≤ A) = false := by simpa using g2
              have t3 : decide (B < 0) = true := by simpa using g3
              clear hp
              go_wp2
              go_quiet (fail)
              go_wp2
              go_ret
              exact ⟨fun h => absurd h HS.out, fun _ => by rw [P.out]; rfl, by repeat (first | with_reducible exact Below.refl _ _ | with_reducible exact hB | ((with_reducible refine Below.setCell ?_ ?_ _); rotate_left; (· first | (simp; done) | omega | (simp; omega))) | with_reducible refine below_drewN ?_ _ | with_reducible refine Below.drew ?_ | ((with_reducible refine Below.alloc ?_ ?_ _); rotate_left; (· first | (simp; done) | omega | (simp; omega))) | exact Below.refl _ _ | exact hB | refine Below.setCell ?_ (by first | (simp; done) | omega | (simp; omega)) _ | refine below_drewN ?_ _ | refine Below.drew ?_ | refine Below.alloc ?_ (by first | (simp; done) | omega | (simp; omega)) _)⟩
            · have t1 : decide (A < 0) = false := by simpa using g1
              have t2 : decide ((k : Int) ≤ A) = false := by simpa using g2
              have t3 : decide (B < 0) = false := by simpa using g3
              have t4 : decide ((k : Int) ≤ B) = true := by simpa using g4
              clear hp
              go_wp2
              go_quiet (fail)
              go_wp2
              go_ret
              exact ⟨fun h => absurd h HS.out, fun _ => by rw [P.out]; rfl, by repeat (first | with_reducible exact Below.refl _ _ | with_reducible exact hB | ((with_reducible refine Below.setCell ?_ ?_ _); rotate_left; (· first | (simp; done) | omega | (simp; omega))) | with_reducible refine below_drewN ?_ _ | with_reducible refine Below.drew ?_ | ((with_reducible refine Below.alloc ?_ ?_ _); rotate_left; (· first | (simp; done) | omega | (simp; omega))) | exact Below.refl _ _ | exact hB | refine Below.setCell ?_ (by first | (simp; done) | omega | (simp; omega)) _ | refine below_drewN ?_ _ | refine Below.drew ?_ | refine Below.alloc ?_ (by first | (simp; done) | omega | (simp; omega)) _)⟩
          · rcases (by omega : A < 0 ∨ (0 ≤ A ∧ k ≤ A) ∨ (0 ≤ A ∧ A < k ∧ B < 0) ∨ (0 ≤ A ∧ A < k ∧ 0 ≤ B ∧ k ≤ B)) with g1 | ⟨g1, g2⟩ | ⟨g1, g2, g3⟩ | ⟨g1, g2, g3, g4⟩
            · have t1 : decide (A < 0) = true := by simpa using g1
              clear hp
              go_wp2
              go_quiet (fail)
              go_wp2
              go_ret
              exact ⟨fun h => absurd h HS.out, fun _ => by rw [P.out]; rfl, by repeat (first | with_reducible exact Below.refl _ _ | with_reducible exact hB | ((with_reducible refine Below.setCell ?_ ?_ _); rotate_left; (· first | (simp; done) | omega | (simp; omega))) | with_reducible refine below_drewN ?_ _ | with_reducible refine Below.drew ?_ | ((with_reducible refine Below.alloc ?_ ?_ _); rotate_left; (· first | (simp; done) | omega | (simp; omega))) | exact Below.refl _ _ | exact hB | refine Below.setCell ?_ (by first | (simp; done) | omega | (simp; omega)) _ | refine below_drewN ?_ _ | refine Below.drew ?_ | refine Below.alloc ?_ (by first | (simp; done) | omega | (simp; omega)) _)⟩
            · have t1 : decide (A < 0) = false := by simpa using g1
              have t2 : decide ((k : Int) ≤ A) = true := by simpa using g2
              clear hp
              go_wp2
              go_quiet (fail)
              go_wp2
              go_ret
              exact ⟨fun h => absurd h HS.out, fun _ => by rw [P.out]; rfl, by repeat (first | with_reducible exact Below.refl _ _ | with_reducible exact hB | ((with_reducible refine Below.setCell ?_ ?_ _); rotate_left; (· first | (simp; done) | omega | (simp; omega))) | with_reducible refine below_drewN ?_ _ | with_reducible refine Below.drew ?_ | ((with_reducible refine Below.alloc ?_ ?_ _); rotate_left; (· first | (simp; done) | omega | (simp; omega))) | exact Below.refl _ _ | exact hB | refine Below.setCell ?_ (by first | (simp; done) | omega | (simp; omega)) _ | refine below_drewN ?_ _ | refine Below.drew ?_ | refine Below.alloc ?_ (by first | (simp; done) | omega | (simp; omega)) _)⟩
            · have t1 : decide (A < 0) = false := by simpa using g1
              have t2 : decide ((k : Int) ≤ A) = false := by simpa using g2
              have t3 : decide (B < 0) = true := by simpa using g3
              clear hp
              go_wp2
              go_quiet (fail)
              go_wp2
              go_ret
              exact ⟨fun h => absurd h HS.out, fun _ => by rw [P.out]; rfl, by repeat (first | with_reducible exact Below.refl _ _ | with_reducible exact hB | ((with_reducible refine Below.setCell ?_ ?_ _); rotate_left; (· first | (simp; done) | omega | (simp; omega))) | with_reducible refine below_drewN ?_ _ | with_reducible refine Below.drew ?_ | ((with_reducible refine Below.alloc ?_ ?_ _); rotate_left; (· first | (simp; done) | omega | (simp; omega))) | exact Below.refl _ _ | exact hB | refine Below.setCell ?_ (by first | (simp; done) | omega | (simp; omega)) _ | refine below_drewN ?_ _ | refine Below.drew ?_ | refine Below.alloc ?_ (by first | (simp; done) | omega | (simp; omega)) _)⟩
            · have t1 : decide (A < 0) = false := by simpa using g1
              have t2 : decide ((k : Int) ≤ A) = false := by simpa using g2
              have t3 : decide (B < 0) = false := by simpa using g3
              have t4 : decide ((k : Int) ≤ B) = true := by simpa using g4
              clear hp
              go_wp2
              go_quiet (fail)
              go_wp2
              go_ret
              exact ⟨fun h => absurd h HS.out, fun _ => by rw [P.out]; rfl, by repeat (first | with_reducible exact Below.refl _ _ | with_reducible exact hB | ((with_reducible refine Below.setCell ?_ ?_ _); rotate_left; (· first | (simp; done) | omega | (simp; omega))) | with_reducible refine below_drewN ?_ _ | with_reducible refine Below.drew ?_ | ((with_reducible refine Below.alloc ?_ ?_ _); rotate_left; (· first | (simp; done) | omega | (simp; omega))) | exact Below.refl _ _ | exact hB | refine Below.setCell ?_ (by first | (simp; done) | omega | (simp; omega)) _ | refine below_drewN ?_ _ | refine Below.drew ?_ | refine Below.alloc ?_ (by first | (simp; done) | omega | (simp; omega)) _)⟩
          · rcases (by omega : A < 0 ∨ (0 ≤ A ∧ k ≤ A) ∨ (0 ≤ A ∧ A < k ∧ B < 0) ∨ (0 ≤ A ∧ A < k ∧ 0 ≤ B ∧ k ≤ B)) with g1 | ⟨g1, g2⟩ | ⟨g1, g2, g3⟩ | ⟨g1, g2, g3, g4⟩
            · have t1 : decide (A < 0) = true := by simpa using g1
              clear hp
              go_wp2
              go_quiet (fail)
              go_wp2
              go_ret
              exact ⟨fun h => absurd h HS.out, fun _ => by rw [P.out]; rfl, by repeat (first | with_reducible exact Below.refl _ _ | with_reducible exact hB | ((with_reducible refine Below.setCell ?_ ?_ _); rotate_left; (· first | (simp; done) | omega | (simp; omega))) | with_reducible refine below_drewN ?_ _ | with_reducible refine Below.drew ?_ | ((with_reducible refine Below.alloc ?_ ?_ _); rotate_left; (· first | (simp; done) | omega | (simp; omega))) | exact Below.refl _ _ | exact hB | refine Below.setCell ?_ (by first | (simp; done) | omega | (simp; omega)) _ | refine below_drewN ?_ _ | refine Below.drew ?_ | refine Below.alloc ?_ (by first | (simp; done) | omega | (simp; omega)) _)⟩
            · have t1 : decide (A < 0) = false := by simpa using g1
              have t2 : decide ((k : Int) ≤ A) = true := by simpa using g2
              clear hp
              go_wp2
              go_quiet (fail)
              go_wp2
              go_ret
              exact ⟨fun h => absurd h HS.out, fun _ => by rw [P.out]; rfl, by repeat (first | with_reducible exact Below.refl _ _ | with_reducible exact hB | ((with_reducible refine Below.setCell ?_ ?_ _); rotate_left; (· first | (simp; done) | omega | (simp; omega))) | with_reducible refine below_drewN ?_ _ | with_reducible refine Below.drew ?_ | ((with_reducible refine Below.alloc ?_ ?_ _); rotate_left; (· first | (simp; done) | omega | (simp; omega))) | exact Below.refl _ _ | exact hB | refine Below.setCell ?_ (by first | (simp; done) | omega | (simp; omega)) _ | refine below_drewN ?_ _ | refine Below.drew ?_ | refine Below.alloc ?_ (by first | (simp; done) | omega | (simp; omega)) _)⟩
            · have t1 : decide (A < 0) = false := by simpa using g1
              have t2 : decide ((k : Int) ≤ A) = false := by simpa using g2
              have t3 : decide (B < 0) = true := by simpa using g3
              clear hp
              go_wp2
              go_quiet (fail)
              go_wp2
              go_ret
              exact ⟨fun h => absurd h HS.out, fun _ => by rw [P.out]; rfl, by repeat (first | with_reducible exact Below.refl _ _ | with_reducible exact hB | ((with_reducible refine Below.setCell ?_ ?_ _); rotate_left; (· first | (simp; done) | omega | (simp; omega))) | with_reducible refine below_drewN ?_ _ | with_reducible refine Below.drew ?_ | ((with_reducible refine Below.alloc ?_ ?_ _); rotate_left; (· first | (simp; done) | omega | (simp; omega))) | exact Below.refl _ _ | exact hB | refine Below.setCell ?_ (by first | (simp; done) | omega | (simp; omega)) _ | refine below_drewN ?_ _ | refine Below.drew ?_ | refine Below.alloc ?_ (by first | (simp; done) | omega | (simp; omega)) _)⟩
            · have t1 : decide (A < 0) = false := by simpa using g1
              have t2 : decide ((k : Int) ≤ A) = false := by simpa using g2
              have t3 : decide (B < 0) = false := by simpa using g3
              have t4 : decide ((k : Int) ≤ B) = true := by simpa using g4
              clear hp
              go_wp2
              go_quiet (fail)
              go_wp2
              go_ret
              exact ⟨fun h => absurd h HS.out, fun _ => by rw [P.out]; rfl, by repeat (first | with_reducible exact Below.refl _ _ | with_reducible exact hB | ((with_reducible refine Below.setCell ?_ ?_ _); rotate_left; (· first | (simp; done) | omega | (simp; omega))) | with_reducible refine below_drewN ?_ _ | with_reducible refine Below.drew ?_ | ((with_reducible refine Below.alloc ?_ ?_ _); rotate_left; (· first | (simp; done) | omega | (simp; omega))) | exact Below.refl _ _ | exact hB | refine Below.setCell ?_ (by first | (simp; done) | omega | (simp; omega)) _ | refine below_drewN ?_ _ | refine Below.drew ?_ | refine Below.alloc ?_ (by first | (simp; done) | omega | (simp; omega)) _)⟩
        · have t1 : (kd == 1) = false := by simp; omega
          have t2 : (kd == 2) = false := by simp; omega
          have t3 : (kd == 3) = false := by simp; omega
          have t4 : (kd == 4) = false := by simp; omega
          have t5 : (kd == 5) = false := by simp; omega
          have t6 : (kd == 6) = false := by simp; omega
          have t7 : (kd == 7) = false := by simp; omega
          have t8 : (kd == 8) = false := by simp; omega
          clear hp hkd
          go_wp2
          go_ret
          exact ⟨fun h => absurd h HS.out, fun _ => by rw [P.out]; rfl, by repeat (first | with_reducible exact Below.refl _ _ | with_reducible exact hB | ((with_reducible refine Below.setCell ?_ ?_ _); rotate_left; (· first | (simp; done) | omega | (simp; omega))) | with_reducible refine below_drewN ?_ _ | with_reducible refine Below.drew ?_ | ((with_reducible refine Below.alloc ?_ ?_ _); rotate_left; (· first | (simp; done) | omega | (simp; omega))) | exact Below.refl _ _ | exact hB | refine Below.setCell ?_ (by first | (simp; done) | omega | (simp; omega)) _ | refine below_drewN ?_ _ | refine Below.drew ?_ | refine Below.alloc ?_ (by first | (simp; done) | omega | (simp; omega)) _)⟩
    · obtain rfl : k = xs.length := by omega
      have HO : Hid (PastOk xs) := ⟨h3, h4, HF.out.all⟩
      go_wp2
      go_ret
      exact ⟨fun _ => rfl, fun h => absurd HO.out h, hB⟩

end Go.Proofs.Ytglagndpholejaa
