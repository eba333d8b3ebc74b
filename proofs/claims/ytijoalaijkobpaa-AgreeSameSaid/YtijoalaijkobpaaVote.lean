/- What vote.Majority computes: Boyer and Moore. -/
import Derived.Test.YtijoalaijkobpaaOpen
import Derived.Test.YtijoalaijkobpaaNum
import Derived.Lib.Hide
import Derived.WalkLawsBesides
namespace Go.Proofs.Ytijoalaijkobpaa
open Go.ChangeShapes Go.WideShapes Go.ChangeAt Go.RowKit
set_option linter.unusedVariables false

/-- how often a number stands among the first k -/
def cnt (zs : List Int) (y : Int) : Nat → Nat
  | 0 => 0
  | k + 1 => cnt zs y k + if zs.getD k 0 = y then 1 else 0
theorem cnt_le (zs : List Int) (y : Int) (k : Nat) : cnt zs y k ≤ k := by
  induction k with
  | zero => exact Nat.le_refl _
  | succ k ih => simp only [cnt]; split <;> omega
/-- Boyer and Moore: the number that leads, and by how much -/
def bmS (s : Int × Int) (x : Int) : Int × Int := if s.2 = 0 then (x, 1) else if x = s.1 then (s.1, s.2 + 1) else (s.1, s.2 - 1)
def bm (zs : List Int) : Nat → Int × Int
  | 0 => (0, 0)
  | k + 1 => bmS (bm zs k) (zs.getD k 0)
theorem bmS_inv (b l x : Int) (k : Nat) (c : Int → Nat) (h1 : 0 ≤ l) (h2 : l ≤ k) (h3 : ∀ y, (y = b → 2 * (c y : Int) ≤ k + l) ∧ (y ≠ b → 2 * (c y : Int) ≤ k - l)) :
    0 ≤ (bmS (b, l) x).2 ∧ (bmS (b, l) x).2 ≤ ((k + 1 : Nat) : Int) ∧ ∀ y, (y = (bmS (b, l) x).1 → 2 * ((c y + if x = y then 1 else 0 : Nat) : Int) ≤ ((k + 1 : Nat) : Int) + (bmS (b, l) x).2) ∧ (y ≠ (bmS (b, l) x).1 → 2 * ((c y + if x = y then 1 else 0 : Nat) : Int) ≤ ((k + 1 : Nat) : Int) - (bmS (b, l) x).2) := by
  unfold bmS
  by_cases c1 : l = 0
  · subst c1
    simp only [if_true]
    refine ⟨by omega, by omega, fun y => ?_⟩
    have h := h3 y
    refine ⟨fun e => ?_, fun e => ?_⟩
    · subst e
      rw [if_pos rfl]
      by_cases c2 : y = b
      · have := h.1 c2; omega
      · have := h.2 c2; omega
    · rw [if_neg (fun g => e g.symm)]
      by_cases c2 : y = b
      · have := h.1 c2; omega
      · have := h.2 c2; omega
  · simp only [if_neg c1]
    by_cases c2 : x = b
    · subst c2
      simp only [if_true]
      refine ⟨by omega, by omega, fun y => ?_⟩
      have h := h3 y
      refine ⟨fun e => ?_, fun e => ?_⟩
      · subst e
        rw [if_pos rfl]
        have := h.1 rfl; omega
      · rw [if_neg (fun g => e g.symm)]
        have := h.2 e; omega
    · simp only [if_neg c2]
      refine ⟨by omega, by omega, fun y => ?_⟩
      have h := h3 y
      refine ⟨fun e => ?_, fun e => ?_⟩
      · rw [if_neg (fun g => c2 (g.trans e))]
        have := h.1 e; omega
      · have := h.2 e
        split <;> omega
theorem bm_inv (zs : List Int) (k : Nat) : 0 ≤ (bm zs k).2 ∧ (bm zs k).2 ≤ k ∧ ∀ y, (y = (bm zs k).1 → 2 * (cnt zs y k : Int) ≤ k + (bm zs k).2) ∧ (y ≠ (bm zs k).1 → 2 * (cnt zs y k : Int) ≤ k - (bm zs k).2) := by
  induction k with
  | zero => exact ⟨by simp [bm], by simp [bm], fun y => ⟨fun _ => by simp [bm, cnt], fun _ => by simp [bm, cnt]⟩⟩
  | succ k ih =>
    obtain ⟨h1, h2, h3⟩ := ih
    exact bmS_inv (bm zs k).1 (bm zs k).2 (zs.getD k 0) k (fun y => cnt zs y k) h1 h2 h3

theorem bm_fst_bd (zs : List Int) (hz : ∀ j, -2147483648 ≤ zs.getD j 0 ∧ zs.getD j 0 ≤ 2147483647) (k : Nat) : -2147483648 ≤ (bm zs k).1 ∧ (bm zs k).1 ≤ 2147483647 := by
  induction k with
  | zero => simp [bm]
  | succ k ih =>
    have := hz k
    simp only [bm, bmS]
    split
    · exact this
    · split <;> exact ih
def PosRow (w : World) (a : Option Addr) (len : Nat) (zs : List Int) : Prop := 0 < len → ∃ b off, a = some ⟨b, off, none⟩ ∧ (∀ i, i < len → w.cell? ⟨b, off + i, none⟩ = some (.int .i32 (zs.getD i 0))) ∧ ∀ i, (Lit.int .i32 (zs.getD i 0)).wf = true
set_option maxHeartbeats 4000000 in
set_option maxRecDepth 100000 in
theorem majority_pos (a : Option Addr) (len cap : Nat) (zs : List Int) (w : World) (hrow : PosRow w a len zs) (hl : len ≤ 64) (m e : Int)
    (h : (if 2 * cnt zs (bm zs len).1 len ≤ len then ((0 : Int), (11 : Int)) else ((bm zs len).1, 0)) = (m, e)) :
    Calls Try.prog 37 #[.slice a len cap] w fun e' w' => e' = .returned (.tuple #[.int .i32 m, .int .i64 e]) ∧ w = w' := by
  have HR := Lib.hid hrow; have H := Lib.hid h; have hlen : len ≤ maxLen := by unfold maxLen; omega
  clear hrow h
  go_enter Try.func37, Try.ntmps37
  go_wp2
  go_loop [4, 5, 16] (fun b l i => ∃ k : Nat, k ≤ len ∧ i = .int .i64 k ∧ b = .int .i32 (bm zs k).1 ∧ l = .int .i64 (bm zs k).2) (fun _ _ i => len - (intOf i).toNat)
  case atStart => exact ⟨0, Nat.zero_le _, rfl, rfl, rfl⟩
  case round =>
    obtain ⟨k, hk, rfl, rfl, rfl⟩ := hrel
    by_cases hlt : k < len
    · obtain ⟨b, off, rfl, hcell, hwf⟩ := HR.out (by omega)
      have hc := hcell k (by omega)
      have hv := bounds_i32 (hwf k)
      have inv := bm_inv zs k
      have i1 := inv.1; have i2 := inv.2.1
      have S : Hid (bm zs (k + 1) = bmS (bm zs k) (zs.getD k 0)) := rfl
      clear hcell hwf inv
      generalize zs.getD k 0 = x at *
      generalize hb' : bm zs (k + 1) = s' at *
      have HB := Lib.hid hb'
      clear hb'
      generalize bm zs k = s at *
      obtain ⟨b1, l1⟩ := s
      simp only at i1 i2 ⊢
      by_cases q : l1 = 0
      · have t1 : (l1 == 0) = true := by simpa using q
        have S2 := Lib.hid (S.out.trans (if_pos q))
        clear q S
        go_wp2
        go_round
        case rel => exact ⟨k + 1, by omega, by go_num, by rw [HB.out, S2.out], by rw [HB.out, S2.out]⟩
        case measure => simp [intOf]; omega
      · have t1 : (l1 == 0) = false := by simpa using q
        by_cases q2 : x = b1
        · have t2 : (x == b1) = true := by simpa using q2
          have S2 := Lib.hid (S.out.trans ((if_neg q).trans (if_pos q2)))
          clear q q2 S
          go_wp2
          go_round
          case rel => exact ⟨k + 1, by omega, by go_num, by rw [HB.out, S2.out], by rw [HB.out, S2.out]⟩
          case measure => simp [intOf]; omega
        · have t2 : (x == b1) = false := by simpa using q2
          have S2 := Lib.hid (S.out.trans ((if_neg q).trans (if_neg q2)))
          clear q q2 S
          go_wp2
          go_round
          case rel => exact ⟨k + 1, by omega, by go_num, by rw [HB.out, S2.out], by rw [HB.out, S2.out]⟩
          case measure => simp [intOf]; omega
    · obtain rfl : k = len := by omega
      generalize (bm zs k).1 = best at *
      generalize (bm zs k).2 = lead at *
      go_wp2
      go_loop [8, 35] (fun n i => ∃ j : Nat, j ≤ k ∧ i = .int .i64 j ∧ n = .int .i64 (cnt zs best j)) (fun _ i => k - (intOf i).toNat)
      case atStart => exact ⟨0, Nat.zero_le _, rfl, rfl⟩
      case round =>
        obtain ⟨j, hj, rfl, rfl⟩ := hrel
        have hcl := cnt_le zs best j
        by_cases hlt2 : j < k
        · obtain ⟨b, off, rfl, hcell, hwf⟩ := HR.out (by omega)
          have hc := hcell j (by omega)
          have S : Hid (cnt zs best (j + 1) = cnt zs best j + if zs.getD j 0 = best then 1 else 0) := rfl
          clear hcell hwf
          generalize zs.getD j 0 = x at *
          generalize hb' : cnt zs best (j + 1) = n' at *
          have HB := Lib.hid hb'
          clear hb'
          by_cases q : x = best
          · have t1 : (x == best) = true := by simpa using q
            have S2 := Lib.hid (S.out.trans (by rw [if_pos q]))
            clear q S
            go_wp2
            go_round
            case rel => exact ⟨j + 1, by omega, by go_num, by rw [HB.out, S2.out]; go_num⟩
            case measure => simp [intOf]; omega
          · have t1 : (x == best) = false := by simpa using q
            have S2 := Lib.hid (S.out.trans (by rw [if_neg q]))
            clear q S
            go_wp2
            go_round
            case rel => exact ⟨j + 1, by omega, by go_num, by rw [HB.out, S2.out]; go_num⟩
            case measure => simp [intOf]; omega
        · obtain rfl : j = k := by omega
          generalize cnt zs best j = n at *
          by_cases q : 2 * n ≤ j
          · have H2 := Lib.hid ((if_pos q).symm.trans H.out)
            have hme := H2.out
            simp only [Prod.mk.injEq] at hme
            obtain ⟨rfl, rfl⟩ := hme
            clear H H2
            go_wp2
            go_ret2
            exact ⟨rfl, rfl⟩
          · have H2 := Lib.hid ((if_neg q).symm.trans H.out)
            have hme := H2.out
            simp only [Prod.mk.injEq] at hme
            obtain ⟨rfl, rfl⟩ := hme
            clear H H2
            go_wp2
            go_ret2
            exact ⟨rfl, rfl⟩
theorem majority_in (a : Option Addr) (len cap : Nat) (zs : List Int) (w : World) (hrow : Open.IsRow .i32 w a len cap zs) (hl : len ≤ 64) (m e : Int)
    (h : (if 2 * cnt zs (bm zs len).1 len ≤ len then ((0 : Int), (11 : Int)) else ((bm zs len).1, 0)) = (m, e)) :
    Calls Try.prog 37 #[.slice a len cap] w fun e' w' => e' = .returned (.tuple #[.int .i32 m, .int .i64 e]) ∧ w = w' :=
  majority_pos a len cap zs w (fun h0 => by
    obtain ⟨b, off, h1, h2, -, -, h3, h4⟩ := hrow.pos h0
    exact ⟨b, off, h1, fun i hi => h3 i (by omega), h4⟩) hl m e h
theorem majority_large (a : Option Addr) (len cap : Nat) (w : World) (hl : 64 < len) (hm : len ≤ 9223372036854775807) :
    Calls Try.prog 37 #[.slice a len cap] w fun e' w' => e' = .returned (.tuple #[.int .i32 0, .int .i64 2]) ∧ w = w' := by
  go_enter Try.func37, Try.ntmps37
  go_wp2
  go_ret2
  exact ⟨rfl, rfl⟩

end Go.Proofs.Ytijoalaijkobpaa
