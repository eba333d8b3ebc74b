/- Trees of gates: how they lie, and what cuts.Check computes. -/
import Derived.Test.YtiocgmioijcjhaaOpen
import Derived.Test.YtiocgmioijcjhaaSlc
import Derived.Test.YtiocgmioijcjhaaRecs
import Derived.Test.YtiocgmioijcjhaaCells
import Derived.Lib.Hide
import Derived.WalkLawsBesides
import Derived.IntWalk
namespace Go.Proofs.Ytiocgmioijcjhaa
open Go.ChangeShapes Go.WideShapes Go.ChangeAt Go.RowKit
set_option linter.unusedVariables false

/-- a gate: its kind, its number, its inputs -/
abbrev GateR := Int × Int × List Int
def GatesAt (w : World) (v : Value) (ts : List GateR) : Prop :=
  (ts = [] ∧ (v = .slice none 0 0 ∨ ∃ a c, v = .slice (some a) 0 c)) ∨
  (0 < ts.length ∧ ∃ b off cap, v = .slice (some ⟨b, off, none⟩) ts.length cap ∧ ts.length ≤ cap ∧ cap ≤ 9223372036854775807 ∧
    ∀ i g, ts[i]? = some g → w.cell? ⟨b, off + i * 3, none⟩ = some (.int .i64 g.1) ∧ w.cell? ⟨b, off + i * 3 + 1, none⟩ = some (.int .i64 g.2.1) ∧ ∃ s, w.cell? ⟨b, off + i * 3 + 2, none⟩ = some s ∧ IntsAt .i64 w s g.2.2 ∧ g.2.2.length ≤ 281474976710656)
theorem GatesAt.later {w w' : World} {v : Value} {ts : List GateR} (h : GatesAt w v ts) (hb : Below w.heap.size w w') : GatesAt w' v ts := by
  rcases h with h | ⟨h0, b, off, cap, e, h1, h2, h3⟩
  · exact .inl h
  · refine .inr ⟨h0, b, off, cap, e, h1, h2, fun i g hg => ?_⟩
    obtain ⟨c0, c1, s, c2, hs, hl⟩ := h3 i g hg
    exact ⟨cell_later hb c0, cell_later hb c1, s, cell_later hb c2, hs.later hb (Nat.le_refl _), hl⟩
theorem GatesAt.len {w : World} {v : Value} {ts : List GateR} (h : GatesAt w v ts) : ∃ a c, v = .slice a ts.length c := by
  rcases h with ⟨rfl, rfl | ⟨a, c, rfl⟩⟩ | ⟨h0, b, off, cap, rfl, -⟩
  · exact ⟨_, _, rfl⟩
  · exact ⟨_, _, rfl⟩
  · exact ⟨_, _, rfl⟩
theorem GatesAt.at_ {w : World} {v : Value} {ts : List GateR} (h : GatesAt w v ts) {i : Nat} {g : GateR} (hg : ts[i]? = some g) :
    ∃ b off cap, v = .slice (some ⟨b, off, none⟩) ts.length cap ∧ ts.length ≤ cap ∧ w.cell? ⟨b, off + i * 3, none⟩ = some (.int .i64 g.1) ∧ w.cell? ⟨b, off + i * 3 + 1, none⟩ = some (.int .i64 g.2.1) ∧ ∃ a c, w.cell? ⟨b, off + i * 3 + 2, none⟩ = some (.slice a g.2.2.length c) ∧ IntsAt .i64 w (.slice a g.2.2.length c) g.2.2 ∧ g.2.2.length ≤ 281474976710656 := by
  rcases h with ⟨rfl, -⟩ | ⟨h0, b, off, cap, e, h1, h2, h3⟩
  · simp at hg
  · obtain ⟨c0, c1, s, c2, hs, hl⟩ := h3 i g hg
    obtain ⟨a, c, rfl⟩ := hs.len
    exact ⟨b, off, cap, e, h1, c0, c1, a, c, c2, hs, hl⟩
def kindOk (g : GateR) : Prop := (g.1 = 1 ∧ (0 ≤ g.2.1 ∧ g.2.1 < 8) ∧ g.2.2.length = 0) ∨ ((g.1 = 2 ∨ g.1 = 3) ∧ g.2.1 = 0) ∨ (g.1 = 4 ∧ 0 ≤ g.2.1 ∧ g.2.1 ≤ g.2.2.length + 1)
def gateOk (i : Nat) (g : GateR) : Prop := kindOk g ∧ g.2.2.length ≤ 6 ∧ ∀ k ∈ g.2.2, 0 ≤ k ∧ k < (i : Int)
def TreeOk (ts : List GateR) : Prop := 1 ≤ ts.length ∧ ts.length ≤ 30 ∧ ∀ i g, ts[i]? = some g → gateOk i g
def TreeFr (ts : List GateR) (k : Nat) : Prop := ∀ i g, i < k → ts[i]? = some g → gateOk i g
theorem TreeFr.step {ts : List GateR} {k : Nat} {g : GateR} (h : TreeFr ts k) (hg : ts[k]? = some g) (ho : gateOk k g) : TreeFr ts (k + 1) := fun i x hi hx => by
  by_cases e : i = k
  · subst e; rw [hg] at hx; cases hx; exact ho
  · exact h i x (by omega) hx
theorem tree_no {ts : List GateR} {k : Nat} {g : GateR} (hg : ts[k]? = some g) (ho : ¬ gateOk k g) : ¬ TreeOk ts := fun h => ho (h.2.2 k g hg)
theorem kinds_of {kd n : Int} {of : List Int} (h : kindOk (kd, n, of)) : (kd = 1 ∧ (decide (n < 0) = false ∧ decide (n ≥ 8) = false ∧ decide (8 ≤ n) = false ∧ ¬ 0 < of.length)) ∨ (kd = 2 ∧ n = 0) ∨ (kd = 3 ∧ n = 0) ∨ (kd = 4 ∧ (decide (n < 0) = false ∧ decide ((of.length : Int) + 1 < n) = false)) := by
  rcases h with ⟨h1, ⟨h2, h3⟩, h4⟩ | ⟨h1 | h1, h2⟩ | ⟨h1, h2, h3⟩
  · simp only at h1 h2 h3 h4
    exact .inl ⟨h1, decide_eq_false (by omega), decide_eq_false (by omega), decide_eq_false (by omega), by omega⟩
  · simp only at h1 h2
    exact .inr (.inl ⟨h1, h2⟩)
  · simp only at h1 h2
    exact .inr (.inr (.inl ⟨h1, h2⟩))
  · simp only at h1 h2 h3
    exact .inr (.inr (.inr ⟨h1, decide_eq_false (by omega), decide_eq_false (by omega)⟩))
theorem ints_at {K : IntKind} {w : World} {v : Value} {xs : List Int} (h : IntsAt K w v xs) {i : Nat} {x : Int} (hx : xs[i]? = some x) : ∃ b off cap, v = .slice (some ⟨b, off, none⟩) xs.length cap ∧ xs.length ≤ cap ∧ w.cell? ⟨b, off + i, none⟩ = some (.int K x) := by
  have hl : i < xs.length := (List.getElem?_eq_some_iff.1 hx).1
  rcases h with ⟨rfl, -⟩ | ⟨h0, b, off, cap, rfl, h1, h2, h3⟩
  · simp at hx
  · refine ⟨b, off, cap, rfl, h1, ?_⟩
    rw [h3 i hl, List.getD_eq_getElem?_getD, hx]; rfl
def ChkPost (ts : List GateR) (w : World) (e : Ending) (w' : World) : Prop := (TreeOk ts → e = .returned (.int .i64 0)) ∧ (¬ TreeOk ts → ∃ c : Int, c ≠ 0 ∧ e = .returned (.int .i64 c)) ∧ Below w.heap.size w w'
theorem chk_no {ts : List GateR} {w w' : World} {c : Int} (h : ¬ TreeOk ts) (hc : c ≠ 0) (hb : Below w.heap.size w w') : ChkPost ts w (.returned (.int .i64 c)) w' := ⟨fun h' => absurd h' h, fun _ => ⟨c, hc, rfl⟩, hb⟩
def ChkRel (ts : List GateR) (w : World) (i : Value) (wr : World) : Prop := ∃ k : Nat, k ≤ ts.length ∧ i = .int .i64 k ∧ TreeFr ts k ∧ Below w.heap.size w wr
def InRel (of : List Int) (i : Nat) (W : World) (j : Value) (wr : World) : Prop := ∃ m : Nat, m ≤ of.length ∧ j = .int .i64 m ∧ (∀ x ∈ of.take m, 0 ≤ x ∧ x < (i : Int)) ∧ wr = W
set_option maxHeartbeats 8000000 in
set_option maxRecDepth 100000 in
theorem cutsCheck_is (ts : List GateR) (v : Value) (w : World) (hv : GatesAt w v ts) (hm : ts.length ≤ 281474976710656) :
    Calls Try.prog 34 #[v] w (ChkPost ts w) := by
  obtain ⟨a, cap, rfl⟩ := hv.len
  have HV := Lib.hid hv
  clear hv
  by_cases h1 : ts.length < 1
  · have d1 : decide ((ts.length : Int) < 1) = true := decide_eq_true (by omega)
    go_enter Try.func34, Try.ntmps34
    go_wp2
    go_ret
    exact chk_no (fun h => by have := h.1; omega) (by decide) (by repeat (first | with_reducible exact Below.refl _ _ | ((with_reducible refine Below.setCell ?_ ?_ _); rotate_left; (· first | (simp; done) | omega | (simp; omega))) | with_reducible refine below_drewN ?_ _ | with_reducible refine Below.drew ?_ | ((with_reducible refine Below.alloc ?_ ?_ _); rotate_left; (· first | (simp; done) | omega | (simp; omega))) | exact Below.refl _ _ | refine Below.setCell ?_ (by first | (simp; done) | omega | (simp; omega)) _ | refine below_drewN ?_ _ | refine Below.drew ?_ | refine Below.alloc ?_ (by first | (simp; done) | omega | (simp; omega)) _))
  · have d1 : decide ((ts.length : Int) < 1) = false := decide_eq_false (by omega)
    by_cases h2 : 30 < ts.length
    · have d2 : decide (30 < (ts.length : Int)) = true := decide_eq_true (by omega)
      go_enter Try.func34, Try.ntmps34
      go_wp2
      go_ret
      exact chk_no (fun h => by have := h.2.1; omega) (by decide) (by repeat (first | with_reducible exact Below.refl _ _ | ((with_reducible refine Below.setCell ?_ ?_ _); rotate_left; (· first | (simp; done) | omega | (simp; omega))) | with_reducible refine below_drewN ?_ _ | with_reducible refine Below.drew ?_ | ((with_reducible refine Below.alloc ?_ ?_ _); rotate_left; (· first | (simp; done) | omega | (simp; omega))) | exact Below.refl _ _ | refine Below.setCell ?_ (by first | (simp; done) | omega | (simp; omega)) _ | refine below_drewN ?_ _ | refine Below.drew ?_ | refine Below.alloc ?_ (by first | (simp; done) | omega | (simp; omega)) _))
    · have d2 : decide (30 < (ts.length : Int)) = false := decide_eq_false (by omega)
      go_enter Try.func34, Try.ntmps34
      go_wp2_with fail
      go_loopw [17] (fun i wr => ChkRel ts w i wr) (fun i _ => ts.length - (intOf i).toNat)
      case atStart => exact ⟨0, Nat.zero_le _, rfl, fun i g hi => absurd hi (Nat.not_lt_zero _), Below.refl _ _⟩
      case round =>
        obtain ⟨k, hk, rfl, hF, hB⟩ := hrel
        have HF := Lib.hid hF; have HB := Lib.hid hB
        clear hF d1 d2
        by_cases hlt : k < ts.length
        · obtain ⟨g, hg⟩ : ∃ g, ts[k]? = some g := ⟨_, List.getElem?_eq_getElem hlt⟩
          obtain ⟨b, off, cap', hv', hl1, c0, c1, ao, co, c2, hof, hofl⟩ := (HV.out.later hB).at_ hg
          cases hv'
          have HG := Lib.hid hg; have HOF := Lib.hid hof
          have e5 : (k : Int) < (ts.length : Int) := by omega
          have e6 : k + 1 ≤ cap := by omega
          have zB := hB.size
          obtain ⟨kd, n, of⟩ := g
          simp only at c0 c1 c2 HOF hofl
          clear hg hof hB
          have fw : IntKind.i64.wrap ((of.length : Int) + 1) = (of.length : Int) + 1 := IntWalk.i64_in _ (by omega)
          have BK : Hid (Below w.heap.size w (wr.alloc (.cells #[.int .i64 kd, .int .i64 n, .slice ao of.length co] 30))) := HB.out.alloc zB _
          by_cases hK : kindOk (kd, n, of)
          · have HKK := Lib.hid hK
            by_cases h6 : 6 < of.length
            · have HNO : Hid (¬ TreeOk ts) := tree_no HG.out (fun h => by have := h.2.1; simp only at this; omega)
              have s6 : decide (6 < (of.length : Int)) = true := decide_eq_true (by omega)
              rcases (show (kd = 1 ∧ (decide (n < 0) = false ∧ decide (n ≥ 8) = false ∧ decide (8 ≤ n) = false ∧ ¬ 0 < of.length)) ∨ (kd = 2 ∧ n = 0) ∨ (kd = 3 ∧ n = 0) ∨ (kd = 4 ∧ (decide (n < 0) = false ∧ decide ((of.length : Int) + 1 < n) = false)) from kinds_of hK) with ⟨rfl, t1, t2, t3, t4⟩ | ⟨rfl, rfl⟩ | ⟨rfl, rfl⟩ | ⟨rfl, t1, t2⟩
              · exact absurd h6 (by omega)
              all_goals
                go_wp2
                go_ret
                exact chk_no HNO.out (by decide) BK.out
            · have s6 : decide (6 < (of.length : Int)) = false := decide_eq_false (by omega)
              obtain ⟨W5, hW5⟩ : ∃ W, wr.alloc (.cells #[.int .i64 kd, .int .i64 n, .slice ao of.length co] 30) = W := ⟨_, rfl⟩
              have HOF2 : Hid (IntsAt .i64 W5 (.slice ao of.length co) of) := hW5 ▸ HOF.out.later ((Below.refl wr.heap.size wr).alloc (Nat.le_refl _) _) (Nat.le_refl _)
              have BK5 : Hid (Below w.heap.size w W5) := hW5 ▸ BK.out
              have HW5 := Lib.hid hW5
              clear hW5
              rcases (show (kd = 1 ∧ (decide (n < 0) = false ∧ decide (n ≥ 8) = false ∧ decide (8 ≤ n) = false ∧ ¬ 0 < of.length)) ∨ (kd = 2 ∧ n = 0) ∨ (kd = 3 ∧ n = 0) ∨ (kd = 4 ∧ (decide (n < 0) = false ∧ decide ((of.length : Int) + 1 < n) = false)) from kinds_of hK) with ⟨rfl, t1, t2, t3, t4⟩ | ⟨rfl, rfl⟩ | ⟨rfl, rfl⟩ | ⟨rfl, t1, t2⟩
              all_goals
                go_wp2_with fail
                clear c0 c1 c2
                rw [HW5.out]
                change Code.wp _ _ _ _ _
                go_loopw [67] (fun j wx => InRel of k W5 j wx) (fun j _ => of.length - (intOf j).toNat)
                case atStart => exact ⟨0, Nat.zero_le _, rfl, by simp, rfl⟩
                case round =>
                  obtain ⟨m, hm2, rfl, hpre, rfl⟩ := hrel
                  by_cases hlt2 : m < of.length
                  · obtain ⟨q, hq⟩ : ∃ q, of[m]? = some q := ⟨_, List.getElem?_eq_getElem hlt2⟩
                    obtain ⟨bb, oo, cc, hs2, hl2, cq⟩ := ints_at HOF2.out hq
                    cases hs2
                    have f5 : (m : Int) < (of.length : Int) := by omega
                    by_cases g1 : q < 0
                    · have t1 : decide (q < 0) = true := decide_eq_true g1
                      have HNO : Hid (¬ TreeOk ts) := tree_no HG.out (fun h => by have := (h.2.2 q (List.mem_of_getElem? hq)).1; omega)
                      clear hq hpre
                      go_wp2
                      go_ret
                      exact chk_no HNO.out (by decide) BK5.out
                    · have t1 : decide (q < 0) = false := decide_eq_false g1
                      by_cases g2 : (k : Int) ≤ q
                      · have t2 : decide (q ≥ (k : Int)) = true := decide_eq_true g2
                        have t3 : decide ((k : Int) ≤ q) = true := decide_eq_true g2
                        have HNO : Hid (¬ TreeOk ts) := tree_no HG.out (fun h => by have := (h.2.2 q (List.mem_of_getElem? hq)).2; omega)
                        clear hq hpre
                        go_wp2
                        go_ret
                        exact chk_no HNO.out (by decide) BK5.out
                      · have t2 : decide (q ≥ (k : Int)) = false := decide_eq_false g2
                        have t3 : decide ((k : Int) ≤ q) = false := decide_eq_false g2
                        have hpre2 : ∀ x ∈ of.take (m + 1), 0 ≤ x ∧ x < (k : Int) := by
                          rw [List.take_succ_eq_append_getElem hlt2]
                          intro x hx
                          have hbe : of[m] = q := by rw [List.getElem?_eq_getElem hlt2] at hq; exact Option.some.inj hq
                          rcases List.mem_append.1 hx with hx | hx
                          · exact hpre x hx
                          · obtain rfl := List.mem_singleton.1 hx; rw [hbe]; omega
                        have HP := Lib.hid hpre2
                        clear hq hpre hpre2
                        go_wp2
                        go_roundw
                        case rel => exact ⟨m + 1, by omega, by go_num, HP.out, rfl⟩
                        case measure => simp [intOf]; omega
                  · obtain rfl : m = of.length := by omega
                    rw [List.take_length] at hpre
                    have HF2 : Hid (TreeFr ts (k + 1)) := HF.out.step HG.out ⟨HKK.out, by show of.length ≤ 6; omega, hpre⟩
                    clear hpre
                    go_wp2
                    go_roundw
                    case rel => exact ⟨k + 1, by omega, by go_num, HF2.out, BK5.out⟩
                    case measure => simp [intOf]; omega
          · have HNO : Hid (¬ TreeOk ts) := tree_no HG.out (fun h => hK h.1)
            have HKK := Lib.hid hK
            clear hK
            rcases (by omega : kd = 1 ∨ kd = 2 ∨ kd = 3 ∨ kd = 4 ∨ (kd ≠ 1 ∧ kd ≠ 2 ∧ kd ≠ 3 ∧ kd ≠ 4)) with rfl | rfl | rfl | rfl | ⟨q1, q2, q3, q4⟩
            · by_cases r1 : n < 0
              · have t1 : decide (n < 0) = true := decide_eq_true r1
                go_wp2
                go_ret
                exact chk_no HNO.out (by decide) BK.out
              · have t1 : decide (n < 0) = false := decide_eq_false r1
                by_cases r2 : 8 ≤ n
                · have t2 : decide (n ≥ 8) = true := decide_eq_true r2
                  have t3 : decide (8 ≤ n) = true := decide_eq_true r2
                  go_wp2
                  go_ret
                  exact chk_no HNO.out (by decide) BK.out
                · have t2 : decide (n ≥ 8) = false := decide_eq_false r2
                  have t3 : decide (8 ≤ n) = false := decide_eq_false r2
                  have t4 : 0 < of.length := Nat.pos_of_ne_zero (fun h => HKK.out (.inl ⟨rfl, ⟨Int.not_lt.1 r1, Int.not_le.1 r2⟩, h⟩))
                  go_wp2
                  go_ret
                  exact chk_no HNO.out (by decide) BK.out
            · have t1 : (n == 0) = false := by
                rw [beq_eq_false_iff_ne]; intro e; exact HKK.out (.inr (.inl ⟨.inl rfl, e⟩))
              go_wp2
              go_ret
              exact chk_no HNO.out (by decide) BK.out
            · have t1 : (n == 0) = false := by
                rw [beq_eq_false_iff_ne]; intro e; exact HKK.out (.inr (.inl ⟨.inr rfl, e⟩))
              go_wp2
              go_ret
              exact chk_no HNO.out (by decide) BK.out
            · by_cases r1 : n < 0
              · have t1 : decide (n < 0) = true := decide_eq_true r1
                go_wp2
                go_ret
                exact chk_no HNO.out (by decide) BK.out
              · have t1 : decide (n < 0) = false := decide_eq_false r1
                have t2 : decide ((of.length : Int) + 1 < n) = true := decide_eq_true (by
                  have h1 : ¬ n ≤ of.length + 1 := fun h => HKK.out (.inr (.inr ⟨rfl, Int.not_lt.1 r1, h⟩))
                  omega)
                go_wp2
                go_ret
                exact chk_no HNO.out (by decide) BK.out
            · have t1 : (kd == 1) = false := by simpa using q1
              have t2 : (kd == 2) = false := by simpa using q2
              have t3 : (kd == 3) = false := by simpa using q3
              have t4 : (kd == 4) = false := by simpa using q4
              go_wp2
              go_ret
              exact chk_no HNO.out (by decide) BK.out
        · obtain rfl : k = ts.length := by omega
          clear hB
          go_wp2
          go_ret
          refine ⟨fun _ => rfl, fun h => absurd ⟨by omega, by omega, fun i g hg => HF.out i g (List.getElem?_eq_some_iff.1 hg).1 hg⟩ h, HB.out⟩

end Go.Proofs.Ytiocgmioijcjhaa
