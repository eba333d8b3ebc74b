/- What log.right and log.Check compute; copies of a log. -/
import Derived.Test.YtglagndpholejaaRecs
import Derived.Test.YtglagndpholejaaCells
import Derived.Test.YtglagndpholejaaConcat
import Derived.Lib.Hide
import Derived.Laws.MakeOwn
import Derived.OwnWalk
import Derived.BigQuiet
import Derived.Deep.QuietTactic
import Derived.StillTailTactics
namespace Go.Proofs.Ytglagndpholejaa
open Go.ChangeShapes Go.WideShapes Go.ChangeAt Go.RowKit
set_option linter.unusedVariables false

abbrev EntR := Int × Int × Int × Int
def entLay (x : EntR) : List Value := [.int .i64 x.1, .int .i64 x.2.1, .int .i64 x.2.2.1, .int .i64 x.2.2.2]
abbrev entV (x : EntR) : Value := .agg #[.int .i64 x.1, .int .i64 x.2.1, .int .i64 x.2.2.1, .int .i64 x.2.2.2]
def entFit (x : EntR) : Prop := (-9223372036854775808 ≤ x.1 ∧ x.1 ≤ 9223372036854775807) ∧ (-9223372036854775808 ≤ x.2.1 ∧ x.2.1 ≤ 9223372036854775807) ∧ (-9223372036854775808 ≤ x.2.2.1 ∧ x.2.2.1 ≤ 9223372036854775807) ∧ (-9223372036854775808 ≤ x.2.2.2 ∧ x.2.2.2 ≤ 9223372036854775807)
theorem entLay_len (x : EntR) : (entLay x).length = 4 := rfl
theorem ent_dec {H : Type} {enc : TypeId × Value → H} {w : World} {base : Nat} {held : Bool} (r : List Value) (h : Open.Leafs enc Try.prog w base (fun _ => true) held [3, 3, 3, 3] r) : ∃ x, r = entLay x ∧ entFit x := by
  obtain ⟨c0, r0, rfl, y0, h0⟩ := Open.leafs_cons h
  obtain ⟨c1, r1, rfl, y1, h1⟩ := Open.leafs_cons h0
  obtain ⟨c2, r2, rfl, y2, h2⟩ := Open.leafs_cons h1
  obtain ⟨c3, r3, rfl, y3, h3⟩ := Open.leafs_cons h2
  obtain rfl := Open.leafs_nil h3
  obtain ⟨a, rfl, ha⟩ := Open.leaf_int Try.underlying3 y0
  obtain ⟨b, rfl, hb⟩ := Open.leaf_int Try.underlying3 y1
  obtain ⟨c, rfl, hc⟩ := Open.leaf_int Try.underlying3 y2
  obtain ⟨d, rfl, hd⟩ := Open.leaf_int Try.underlying3 y3
  exact ⟨(a, b, c, d), rfl, bounds_i64 ha, bounds_i64 hb, bounds_i64 hc, bounds_i64 hd⟩
/-- an entry is right -/
def entOk (x : EntR) : Prop := (0 ≤ x.1 ∧ x.1 ≤ 1073741824) ∧ (0 ≤ x.2.1 ∧ x.2.1 ≤ 4) ∧ (1 ≤ x.2.2.1 ∧ x.2.2.1 ≤ 20) ∧ (1 ≤ x.2.2.2 ∧ x.2.2.2 ≤ 9999)
instance (x : EntR) : Decidable (entOk x) := by unfold entOk; infer_instance
/-- an entry may follow another one -/
def seqOk (p x : EntR) : Prop := p.1 ≤ x.1 ∧ ¬ (x.2.1 = p.2.1 ∧ x.2.2.1 = p.2.2.1)
instance (p x : EntR) : Decidable (seqOk p x) := by unfold seqOk; infer_instance
abbrev ent0 : EntR := (0, 0, 0, 0)
def LogFr (xs : List EntR) (k : Nat) : Prop := ∀ i, i < k → entOk (xs.getD i ent0) ∧ (0 < i → seqOk (xs.getD (i - 1) ent0) (xs.getD i ent0))
def LogOk (xs : List EntR) : Prop := xs.length ≤ 32 ∧ LogFr xs xs.length
theorem LogFr.step {xs : List EntR} {k : Nat} {x : EntR} (h : LogFr xs k) (hx : xs.getD k ent0 = x) (h1 : entOk x) (h2 : 0 < k → seqOk (xs.getD (k - 1) ent0) x) : LogFr xs (k + 1) := fun i hi => by
  by_cases e : i = k
  · subst e; rw [hx]; exact ⟨h1, h2⟩
  · exact h i (by omega)
set_option maxHeartbeats 4000000 in
set_option maxRecDepth 100000 in
theorem right_is (f l c m : Int) (w : World) :
    Calls Try.prog 50 #[entV (f, l, c, m)] w fun e w' => e = .returned (.int .i64 (if entOk (f, l, c, m) then 0 else 1)) ∧ Below w.heap.size w w' := by
  by_cases h : entOk (f, l, c, m)
  · rw [if_pos h]
    obtain ⟨⟨a1, a2⟩, ⟨b1, b2⟩, ⟨c1, c2⟩, d1, d2⟩ := h
    simp only at a1 a2 b1 b2 c1 c2 d1 d2
    have t1 : decide (f < 0) = false := by simpa using a1
    have t2 : decide (1073741824 < f) = false := by simpa using a2
    have t3 : decide (l < 0) = false := by simpa using b1
    have t4 : decide (4 < l) = false := by simpa using b2
    have t5 : decide (c < 1) = false := by simpa using c1
    have t6 : decide (20 < c) = false := by simpa using c2
    have t7 : decide (m < 1) = false := by simpa using d1
    have t8 : decide (9999 < m) = false := by simpa using d2
    clear a1 a2 b1 b2 c1 c2 d1 d2
    go_enter Try.func50, Try.ntmps50
    go_wp2
    go_ret
    exact ⟨rfl, by repeat (first | with_reducible exact Below.refl _ _ | ((with_reducible refine Below.setCell ?_ ?_ _); rotate_left; (· first | (simp; done) | omega | (simp; omega))) | with_reducible refine below_drewN ?_ _ | with_reducible refine Below.drew ?_ | ((with_reducible refine Below.alloc ?_ ?_ _); rotate_left; (· first | (simp; done) | omega | (simp; omega))) | exact Below.refl _ _ | refine Below.setCell ?_ (by first | (simp; done) | omega | (simp; omega)) _ | refine below_drewN ?_ _ | refine Below.drew ?_ | refine Below.alloc ?_ (by first | (simp; done) | omega | (simp; omega)) _)⟩
  · rw [if_neg h]
    have hh : f < 0 ∨ 1073741824 < f ∨ l < 0 ∨ 4 < l ∨ c < 1 ∨ 20 < c ∨ m < 1 ∨ 9999 < m := by
      unfold entOk at h; simp only at h; omega
    clear h
    have hsome : (decide (f < 0) = true) ∨ (decide (f < 0) = false ∧ decide (1073741824 < f) = true) ∨ (decide (f < 0) = false ∧ decide (1073741824 < f) = false ∧ decide (l < 0) = true) ∨ (decide (f < 0) = false ∧ decide (1073741824 < f) = false ∧ decide (l < 0) = false ∧ decide (4 < l) = true) ∨ (decide (f < 0) = false ∧ decide (1073741824 < f) = false ∧ decide (l < 0) = false ∧ decide (4 < l) = false ∧ decide (c < 1) = true) ∨ (decide (f < 0) = false ∧ decide (1073741824 < f) = false ∧ decide (l < 0) = false ∧ decide (4 < l) = false ∧ decide (c < 1) = false ∧ decide (20 < c) = true) ∨ (decide (f < 0) = false ∧ decide (1073741824 < f) = false ∧ decide (l < 0) = false ∧ decide (4 < l) = false ∧ decide (c < 1) = false ∧ decide (20 < c) = false ∧ decide (m < 1) = true) ∨ (decide (f < 0) = false ∧ decide (1073741824 < f) = false ∧ decide (l < 0) = false ∧ decide (4 < l) = false ∧ decide (c < 1) = false ∧ decide (20 < c) = false ∧ decide (m < 1) = false ∧ decide (9999 < m) = true) := by
      simp only [decide_eq_false_iff_not, decide_eq_true_eq]; omega
    clear hh
    rcases hsome with d0 | ⟨d0, d1⟩ | ⟨d0, d1, d2⟩ | ⟨d0, d1, d2, d3⟩ | ⟨d0, d1, d2, d3, d4⟩ | ⟨d0, d1, d2, d3, d4, d5⟩ | ⟨d0, d1, d2, d3, d4, d5, d6⟩ | ⟨d0, d1, d2, d3, d4, d5, d6, d7⟩
    all_goals
      go_enter Try.func50, Try.ntmps50
      go_wp2
      go_ret
      exact ⟨rfl, by repeat (first | with_reducible exact Below.refl _ _ | ((with_reducible refine Below.setCell ?_ ?_ _); rotate_left; (· first | (simp; done) | omega | (simp; omega))) | with_reducible refine below_drewN ?_ _ | with_reducible refine Below.drew ?_ | ((with_reducible refine Below.alloc ?_ ?_ _); rotate_left; (· first | (simp; done) | omega | (simp; omega))) | exact Below.refl _ _ | refine Below.setCell ?_ (by first | (simp; done) | omega | (simp; omega)) _ | refine below_drewN ?_ _ | refine Below.drew ?_ | refine Below.alloc ?_ (by first | (simp; done) | omega | (simp; omega)) _)⟩
def LCRel (xs : List EntR) (w : World) (i : Value) (wr : World) : Prop := ∃ k : Nat, k ≤ xs.length ∧ i = .int .i64 k ∧ LogFr xs k ∧ Below w.heap.size w wr
def LCPost (xs : List EntR) (w : World) (e : Ending) (w' : World) : Prop := (LogOk xs → e = .returned (.int .i64 0)) ∧ (¬ LogOk xs → ∃ c : Int, c ≠ 0 ∧ e = .returned (.int .i64 c)) ∧ Below w.heap.size w w'
theorem log_no {xs : List EntR} {k : Nat} (hk : k < xs.length) (h : ¬ (entOk (xs.getD k ent0) ∧ (0 < k → seqOk (xs.getD (k - 1) ent0) (xs.getD k ent0)))) : ¬ LogOk xs := fun h2 => h (h2.2 k hk)
set_option maxHeartbeats 8000000 in
set_option maxRecDepth 100000 in
theorem logCheck_is (xs : List EntR) (v : Value) (w : World) (hv : RecsAt 4 entLay w v xs) (hm : xs.length ≤ 9223372036854775807) :
    Calls Try.prog 21 #[v] w (LCPost xs w) := by
  obtain ⟨a, cap, rfl⟩ := hv.len
  have HV := Lib.hid hv
  clear hv
  by_cases h2 : 32 < xs.length
  · have N : ¬ LogOk xs := fun h => absurd h.1 (by omega)
    have HN := Lib.hid N
    have d2 : decide (32 < (xs.length : Int)) = true := by simp; omega
    clear h2 N
    go_enter Try.func21, Try.ntmps21
    go_wp2
    go_ret
    exact ⟨fun h => absurd h HN.out, fun _ => ⟨2, by decide, rfl⟩, Below.refl _ _⟩
  have d2 : decide (32 < (xs.length : Int)) = false := by simp; omega
  have h4 : xs.length ≤ 32 := by omega
  clear h2
  go_enter Try.func21, Try.ntmps21
  go_wp2
  clear d2
  go_loopw [11] (fun i wr => LCRel xs w i wr) (fun i _ => xs.length - (intOf i).toNat)
  case atStart => exact ⟨0, Nat.zero_le _, rfl, fun i hi => absurd hi (Nat.not_lt_zero _), Below.refl _ _⟩
  case round =>
    obtain ⟨k, hk, rfl, hfr, hB⟩ := hrel
    have HF := Lib.hid hfr
    have zB := hB.size
    clear hfr
    by_cases hlt : k < xs.length
    · obtain ⟨x, hx⟩ : ∃ x, xs[k]? = some x := ⟨_, List.getElem?_eq_getElem hlt⟩
      obtain ⟨b, off, cap', hv', hl1, hl2, hc⟩ := HV.out.at_ hx
      cases hv'
      have hxd : xs.getD k ent0 = x := by rw [List.getD_eq_getElem?_getD, hx]; rfl
      obtain ⟨f, l, c, m⟩ := x
      have HX := Lib.hid hxd
      have c0 := cell_later hB (hc 0 (by omega))
      have c1 := cell_later hB (hc 1 (by omega))
      have c2 := cell_later hB (hc 2 (by omega))
      have c3 := cell_later hB (hc 3 (by omega))
      change wr.cell? ⟨b, off + k * 4, none⟩ = some (.int .i64 f) at c0
      change wr.cell? ⟨b, off + k * 4 + 1, none⟩ = some (.int .i64 l) at c1
      change wr.cell? ⟨b, off + k * 4 + 2, none⟩ = some (.int .i64 c) at c2
      change wr.cell? ⟨b, off + k * 4 + 3, none⟩ = some (.int .i64 m) at c3
      have NO := log_no hlt
      rw [hxd] at NO
      have HNO := Lib.hid NO
      have HB := Lib.hid hB
      have e5 : (k : Int) < (xs.length : Int) := by omega
      have e6 : k + 1 ≤ cap := by omega
      clear hc hx hxd NO hB
      by_cases hok : entOk (f, l, c, m)
      · have HOK := Lib.hid hok
        clear hok
        go_wp2_with fail
        refine (right_is f l c m _).mono ?_
        rw [if_pos HOK.out]
        rintro e w1 ⟨rfl, hb⟩
        have HB1 : Hid (Below w.heap.size w w1) := by have := HB.out; repeat (first | with_reducible exact Below.refl _ _ | with_reducible exact this | ((with_reducible refine Below.setCell ?_ ?_ _); rotate_left; (· first | (simp; done) | omega | (simp; omega))) | with_reducible refine below_drewN ?_ _ | with_reducible refine Below.drew ?_ | ((with_reducible refine Below.trans ?_ (Below.mono hb ?_)); rotate_left; (· first | (simp; done) | omega | (simp; omega))) | ((with_reducible refine Below.alloc ?_ ?_ _); rotate_left; (· first | (simp; done) | omega | (simp; omega))) | exact Below.refl _ _ | exact this | refine Below.setCell ?_ (by first | (simp; done) | omega | (simp; omega)) _ | refine below_drewN ?_ _ | refine Below.drew ?_ | refine Below.trans ?_ (Below.mono hb (by first | (simp; done) | omega | (simp; omega))) | refine Below.alloc ?_ (by first | (simp; done) | omega | (simp; omega)) _)
        have HC4 := (CellsAt.new wr [.int .i64 f, .int .i64 l, .int .i64 c, .int .i64 m] #[.int .i64 f, .int .i64 l, .int .i64 c, .int .i64 m] 42 rfl).call hb
        have d0 := HC4.at_ 0 rfl
        have d1 := HC4.at_ 1 rfl
        have d2 := HC4.at_ 2 rfl
        have z1 := HC4.lt
        clear hb HC4 HB c0 c1 c2 c3
        by_cases k0 : k = 0
        · subst k0
          have FS : Hid (LogFr xs (0 + 1)) := HF.out.step HX.out HOK.out (fun h => absurd h (Nat.lt_irrefl 0))
          go_wp2
          go_quiet (fail)
          go_wp2
          go_roundw
          case rel => exact ⟨1, by omega, by go_num, FS.out, by have := HB1.out; repeat (first | with_reducible exact Below.refl _ _ | with_reducible exact this | ((with_reducible refine Below.setCell ?_ ?_ _); rotate_left; (· first | (simp; done) | omega | (simp; omega))) | with_reducible refine below_drewN ?_ _ | with_reducible refine Below.drew ?_ | ((with_reducible refine Below.alloc ?_ ?_ _); rotate_left; (· first | (simp; done) | omega | (simp; omega))) | exact Below.refl _ _ | exact this | refine Below.setCell ?_ (by first | (simp; done) | omega | (simp; omega)) _ | refine below_drewN ?_ _ | refine Below.drew ?_ | refine Below.alloc ?_ (by first | (simp; done) | omega | (simp; omega)) _)⟩
          case measure => simp [intOf]; omega
        · obtain ⟨p, hp⟩ : ∃ p, xs[k - 1]? = some p := ⟨_, List.getElem?_eq_getElem (by omega)⟩
          have hpd : xs.getD (k - 1) ent0 = p := by rw [List.getD_eq_getElem?_getD, hp]; rfl
          obtain ⟨b', off', cap', hv', -, -, hc⟩ := HV.out.at_ hp
          cases hv'
          obtain ⟨pf, pl, pc, pm⟩ := p
          have p0 := cell_later HB1.out (hc 0 (by omega))
          have p1 := cell_later HB1.out (hc 1 (by omega))
          have p2 := cell_later HB1.out (hc 2 (by omega))
          change w1.cell? ⟨b, off + (k - 1) * 4, none⟩ = some (.int .i64 pf) at p0
          change w1.cell? ⟨b, off + (k - 1) * 4 + 1, none⟩ = some (.int .i64 pl) at p1
          change w1.cell? ⟨b, off + (k - 1) * 4 + 2, none⟩ = some (.int .i64 pc) at p2
          have HPD := Lib.hid hpd
          have g0 : 0 < k := by omega
          have g1 : IntKind.i64.wrap ((k : Int) - 1) = (k : Int) - 1 := IntWalk.i64_in _ (by omega)
          have g3 : ((k : Int) - 1).toNat = k - 1 := by omega
          have g4 : (k : Int) - 1 < (xs.length : Int) := by omega
          have g6 : (0 : Int) ≤ (k : Int) - 1 := by omega
          have HG0 := Lib.hid g0
          clear hc hp hpd k0
          by_cases q1 : f < pf
          · have HBAD : Hid (¬ LogOk xs) := HNO.out (fun h => by
              have := (h.2 HG0.out).1
              rw [HPD.out] at this
              simp only at this; omega)
            have t1 : decide (f < pf) = true := by simpa using q1
            clear q1
            go_wp2
            go_quiet (fail)
            go_wp2
            go_ret
            exact ⟨fun h => absurd h HBAD.out, fun _ => ⟨4, by decide, rfl⟩, by have := HB1.out; repeat (first | with_reducible exact Below.refl _ _ | with_reducible exact this | ((with_reducible refine Below.setCell ?_ ?_ _); rotate_left; (· first | (simp; done) | omega | (simp; omega))) | with_reducible refine below_drewN ?_ _ | with_reducible refine Below.drew ?_ | ((with_reducible refine Below.alloc ?_ ?_ _); rotate_left; (· first | (simp; done) | omega | (simp; omega))) | exact Below.refl _ _ | exact this | refine Below.setCell ?_ (by first | (simp; done) | omega | (simp; omega)) _ | refine below_drewN ?_ _ | refine Below.drew ?_ | refine Below.alloc ?_ (by first | (simp; done) | omega | (simp; omega)) _)⟩
          · have t1 : decide (f < pf) = false := by simpa using q1
            by_cases q2 : l = pl
            · by_cases q3 : c = pc
              · have HBAD : Hid (¬ LogOk xs) := HNO.out (fun h => by
                  have := (h.2 HG0.out).2
                  rw [HPD.out] at this
                  exact this ⟨q2, q3⟩)
                have t2 : (l == pl) = true := by simpa using q2
                have t3 : (c == pc) = true := by simpa using q3
                clear q1 q2 q3
                go_wp2
                go_quiet (fail)
                go_wp2
                go_ret
                exact ⟨fun h => absurd h HBAD.out, fun _ => ⟨4, by decide, rfl⟩, by have := HB1.out; repeat (first | with_reducible exact Below.refl _ _ | with_reducible exact this | ((with_reducible refine Below.setCell ?_ ?_ _); rotate_left; (· first | (simp; done) | omega | (simp; omega))) | with_reducible refine below_drewN ?_ _ | with_reducible refine Below.drew ?_ | ((with_reducible refine Below.alloc ?_ ?_ _); rotate_left; (· first | (simp; done) | omega | (simp; omega))) | exact Below.refl _ _ | exact this | refine Below.setCell ?_ (by first | (simp; done) | omega | (simp; omega)) _ | refine below_drewN ?_ _ | refine Below.drew ?_ | refine Below.alloc ?_ (by first | (simp; done) | omega | (simp; omega)) _)⟩
              · have FS : Hid (LogFr xs (k + 1)) := HF.out.step HX.out HOK.out (fun _ => by rw [HPD.out]; exact ⟨by simp only; omega, fun h => q3 h.2⟩)
                have t2 : (l == pl) = true := by simpa using q2
                have t3 : (c == pc) = false := by simpa using q3
                clear q1 q2 q3
                go_wp2
                go_quiet (fail)
                go_wp2
                go_roundw
                case rel => exact ⟨k + 1, by omega, by go_num, FS.out, by have := HB1.out; repeat (first | with_reducible exact Below.refl _ _ | with_reducible exact this | ((with_reducible refine Below.setCell ?_ ?_ _); rotate_left; (· first | (simp; done) | omega | (simp; omega))) | with_reducible refine below_drewN ?_ _ | with_reducible refine Below.drew ?_ | ((with_reducible refine Below.alloc ?_ ?_ _); rotate_left; (· first | (simp; done) | omega | (simp; omega))) | exact Below.refl _ _ | exact this | refine Below.setCell ?_ (by first | (simp; done) | omega | (simp; omega)) _ | refine below_drewN ?_ _ | refine Below.drew ?_ | refine Below.alloc ?_ (by first | (simp; done) | omega | (simp; omega)) _)⟩
                case measure => simp [intOf]; omega
            · have FS : Hid (LogFr xs (k + 1)) := HF.out.step HX.out HOK.out (fun _ => by rw [HPD.out]; exact ⟨by simp only; omega, fun h => q2 h.1⟩)
              have t2 : (l == pl) = false := by simpa using q2
              clear q1 q2
              go_wp2
              go_quiet (fail)
              go_wp2
              go_roundw
              case rel => exact ⟨k + 1, by omega, by go_num, FS.out, by have := HB1.out; repeat (first | with_reducible exact Below.refl _ _ | with_reducible exact this | ((with_reducible refine Below.setCell ?_ ?_ _); rotate_left; (· first | (simp; done) | omega | (simp; omega))) | with_reducible refine below_drewN ?_ _ | with_reducible refine Below.drew ?_ | ((with_reducible refine Below.alloc ?_ ?_ _); rotate_left; (· first | (simp; done) | omega | (simp; omega))) | exact Below.refl _ _ | exact this | refine Below.setCell ?_ (by first | (simp; done) | omega | (simp; omega)) _ | refine below_drewN ?_ _ | refine Below.drew ?_ | refine Below.alloc ?_ (by first | (simp; done) | omega | (simp; omega)) _)⟩
              case measure => simp [intOf]; omega
      · have HBAD := Lib.hid (HNO.out (fun h => hok h.1))
        have HOK := Lib.hid hok
        clear hok
        go_wp2_with fail
        refine (right_is f l c m _).mono ?_
        rw [if_neg HOK.out]
        rintro e w1 ⟨rfl, hb⟩
        have HB1 : Hid (Below w.heap.size w w1) := by have := HB.out; repeat (first | with_reducible exact Below.refl _ _ | with_reducible exact this | ((with_reducible refine Below.setCell ?_ ?_ _); rotate_left; (· first | (simp; done) | omega | (simp; omega))) | with_reducible refine below_drewN ?_ _ | with_reducible refine Below.drew ?_ | ((with_reducible refine Below.trans ?_ (Below.mono hb ?_)); rotate_left; (· first | (simp; done) | omega | (simp; omega))) | ((with_reducible refine Below.alloc ?_ ?_ _); rotate_left; (· first | (simp; done) | omega | (simp; omega))) | exact Below.refl _ _ | exact this | refine Below.setCell ?_ (by first | (simp; done) | omega | (simp; omega)) _ | refine below_drewN ?_ _ | refine Below.drew ?_ | refine Below.trans ?_ (Below.mono hb (by first | (simp; done) | omega | (simp; omega))) | refine Below.alloc ?_ (by first | (simp; done) | omega | (simp; omega)) _)
        clear hb
        go_wp2
        go_ret
        exact ⟨fun h => absurd h HBAD.out, fun _ => ⟨1, by decide, rfl⟩, HB1.out⟩
    · obtain rfl : k = xs.length := by omega
      have HO : Hid (LogOk xs) := ⟨h4, HF.out⟩
      go_wp2
      go_ret
      exact ⟨fun _ => rfl, fun h => absurd HO.out h, hB⟩

end Go.Proofs.Ytglagndpholejaa
