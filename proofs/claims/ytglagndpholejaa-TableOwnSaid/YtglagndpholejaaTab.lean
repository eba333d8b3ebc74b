/- What the functions of package table compute: the walks. -/
import Derived.Test.YtglagndpholejaaOpen
import Derived.Test.YtglagndpholejaaTableNum
import Derived.Lib.Hide
import Derived.WalkLawsBesides
import Derived.IntWalk
namespace Go.Proofs.Ytglagndpholejaa
open Go.ChangeShapes Go.WideShapes Go.ChangeAt Go.RowKit Go.Proofs.Ytglagndpholejaa.Open
set_option linter.unusedVariables false
/-- a row of integers that the walk reads: its cells up to its length -/
def RowL (k : IntKind) (w : World) (a : Option Addr) (len cap : Nat) (zs : List Int) : Prop :=
  len ≤ cap ∧ cap ≤ maxLen ∧ (0 < len → ∃ b off, a = some ⟨b, off, none⟩ ∧ ∀ i, i < len → w.cell? ⟨b, off + i, none⟩ = some (.int k (zs.getD i 0))) ∧ ∀ i, (Lit.int k (zs.getD i 0)).wf = true
theorem RowL.pos {k : IntKind} {w : World} {a : Option Addr} {len cap : Nat} {zs : List Int} (h : RowL k w a len cap zs) (h0 : 0 < len) :
    ∃ b off, a = some ⟨b, off, none⟩ ∧ len ≤ cap ∧ cap ≤ maxLen ∧ True ∧ (∀ i, i < len → w.cell? ⟨b, off + i, none⟩ = some (.int k (zs.getD i 0))) ∧ ∀ i, (Lit.int k (zs.getD i 0)).wf = true := by
  obtain ⟨h1, h2, h3, h4⟩ := h
  obtain ⟨b, off, e, hc⟩ := h3 h0
  exact ⟨b, off, e, h1, h2, trivial, hc, h4⟩
theorem RowL.maxLen {k : IntKind} {w : World} {a : Option Addr} {len cap : Nat} {zs : List Int} (h : RowL k w a len cap zs) : len ≤ cap ∧ cap ≤ 9223372036854775807 := by
  have h2 := h.2.1
  unfold Go.maxLen at h2
  exact ⟨h.1, by omega⟩
theorem RowL.later {k : IntKind} {w w' : World} {a : Option Addr} {len cap : Nat} {zs : List Int} (h : RowL k w a len cap zs) (hb : Below w.heap.size w w') : RowL k w' a len cap zs := by
  refine ⟨h.1, h.2.1, fun h0 => ?_, h.2.2.2⟩
  obtain ⟨b, off, e, hc⟩ := h.2.2.1 h0
  exact ⟨b, off, e, fun i hi => cell_later hb (hc i hi)⟩
theorem IsRow.low {k : IntKind} {w : World} {a : Option Addr} {len cap : Nat} {zs : List Int} (h : Open.IsRow k w a len cap zs) : RowL k w a len cap zs := by
  refine ⟨h.maxLen.1, ?_, fun h0 => ?_, fun i => ?_⟩
  · rcases h with ⟨_, _, rfl, _⟩ | ⟨x, _, _, hm, _⟩
    · exact Nat.zero_le _
    · exact hm
  · obtain ⟨b, off, e, hl, hm, hz, hc, hw⟩ := h.pos h0
    exact ⟨b, off, e, fun i hi => hc i (by omega)⟩
  · rcases h with ⟨_, _, _, rfl⟩ | ⟨x, _, _, _, _, _, hw⟩
    · rw [List.getD_eq_getElem?_getD, List.getElem?_eq_none (by simp)]; cases k <;> decide
    · by_cases hi : i < zs.length
      · have := hw zs[i] (List.getElem_mem hi)
        simpa [List.getD_eq_getElem?_getD, hi] using this
      · rw [List.getD_eq_getElem?_getD, List.getElem?_eq_none (by omega)]; cases k <;> decide

theorem ceil_neg (p c : Int) (hc : 0 < c) : -((p + c - 1) / c) = (-p) / c := by
  have h1 := Int.mul_ediv_add_emod (p + c - 1) c
  have h2 := Int.emod_nonneg (p + c - 1) (show c ≠ 0 by omega)
  have h3 := Int.emod_lt_of_pos (p + c - 1) hc
  symm
  rw [Int.ediv_eq_iff_of_pos hc]
  generalize (p + c - 1) / c = q at *
  have e : -q * c = -(c * q) := by rw [Int.neg_mul, Int.mul_comm]
  rw [e]
  constructor <;> omega
set_option maxHeartbeats 2000000 in
theorem part_any (a b c : Int) (w : World) (ha : 0 ≤ a ∧ a ≤ c) (hc : 0 < c ∧ c ≤ 4294967295) (hb : -4294967295 ≤ b ∧ b ≤ 4294967295) :
    Calls Try.prog 49 #[.int .i64 a, .int .i64 b, .int .i64 c] w fun e w' => e = .returned (.int .i64 (partI a b c)) ∧ w = w' := by
  have hcz : c ≠ 0 := by omega
  by_cases h : 0 ≤ b
  · have h1 : 0 ≤ a * b := Int.mul_nonneg ha.1 h
    have h2 : a * b ≤ 4294967295 * 4294967295 := Int.mul_le_mul (by omega) hb.2 h (by omega)
    have h3 := part_bd a b c ha.1 ha.2 hc.1
    unfold partI at h3
    have d : decide (0 ≤ b) = true := decide_eq_true h
    go_enter Try.func49, Try.ntmps49
    go_wp2
    go_ret
    exact ⟨ret_int rfl, rfl⟩
  · have hn : 0 ≤ -b := by omega
    have h1 : 0 ≤ a * -b := Int.mul_nonneg ha.1 hn
    have h2 : a * -b ≤ 4294967295 * 4294967295 := Int.mul_le_mul (by omega) (by omega) hn (by omega)
    have h3 := part_bd a b c ha.1 ha.2 hc.1
    have e1 : (a * -b + c - 1) / c = -(partI a b c) := by
      have := ceil_neg (a * -b) c hc.1
      unfold partI
      rw [Int.mul_neg, Int.neg_neg] at this
      rw [Int.mul_neg]; omega
    have h4 : 0 ≤ (a * -b + c - 1) / c ∧ (a * -b + c - 1) / c ≤ 4294967295 := by rw [e1]; omega
    have E1 := Lib.hid e1
    clear e1 h3
    have d : decide (0 ≤ b) = false := decide_eq_false h
    go_enter Try.func49, Try.ntmps49
    go_wp2
    go_ret
    exact ⟨ret_int (by rw [E1.out]; omega), rfl⟩

/-- the rows of a table -/
def TabRow (w : World) (ax : Option Addr) (lx cx : Nat) (xs : List Int) (ay : Option Addr) (ly cy : Nat) (ys : List Int) : Prop := RowL .i32 w ax lx cx xs ∧ RowL .i32 w ay ly cy ys
def ChkRel (w : World) (v : Value) (lx : Nat) (xs : List Int) (i : Value) (wr : World) : Prop := ∃ k : Nat, 1 ≤ k ∧ k ≤ lx ∧ i = .int .i64 k ∧ Hid (risB xs k = true) ∧ Below w.heap.size w wr ∧ w.heap.size < wr.heap.size ∧ wr.cell? ⟨w.heap.size, 0, none⟩ = some v
theorem chkRel_mk {w : World} {v : Value} {lx : Nat} {xs : List Int} {i : Value} {wr : World} (k : Nat) (h1 : 1 ≤ k) (h2 : k ≤ lx) (h3 : i = .int .i64 k) (h4 : Hid (risB xs k = true)) (h5 : Below w.heap.size w wr) (h6 : w.heap.size < wr.heap.size) (h7 : wr.cell? ⟨w.heap.size, 0, none⟩ = some v) :
    ChkRel w v lx xs i wr := ⟨k, h1, h2, h3, h4, h5, h6, h7⟩
theorem risB_false {xs : List Int} {k n : Nat} (h : risB xs k = false) (hk : k ≤ n) : risB xs n = false := by
  induction n with
  | zero => obtain rfl : k = 0 := by omega
            exact h
  | succ n ih =>
    by_cases he : k = n + 1
    · subst he; exact h
    · simp only [risB, ih (by omega), Bool.false_and]
set_option maxHeartbeats 4000000 in
theorem tabCheck_any (ax : Option Addr) (lx cx : Nat) (xs : List Int) (ay : Option Addr) (ly cy : Nat) (w : World) (hx : RowL .i32 w ax lx cx xs) (hl : ly ≤ cy ∧ cy ≤ 9223372036854775807) (e : Int) (he : tabChk lx ly xs = e) :
    Calls Try.prog 45 #[.agg #[.slice ax lx cx, .slice ay ly cy]] w fun e' w' => e' = .returned (.int .i64 e) ∧ Below w.heap.size w w' := by
  have HX := Lib.hid hx
  have HM := hx.maxLen
  have HE := Lib.hid he
  clear hx he
  by_cases h1 : 64 < lx
  · obtain rfl : 2 = e := by rw [← HE.out]; unfold tabChk; rw [if_pos h1]
    clear HE
    go_enter Try.func45, Try.ntmps45
    go_wp2
    go_ret
    refine ⟨rfl, ?_⟩
    repeat (first | with_reducible exact Below.refl _ _ | ((with_reducible refine Below.setCell ?_ ?_ _); rotate_left; (· first | (simp; done) | omega | (simp; omega))) | with_reducible refine below_drewN ?_ _ | with_reducible refine Below.drew ?_ | ((with_reducible refine Below.alloc ?_ ?_ _); rotate_left; (· first | (simp; done) | omega | (simp; omega))) | exact Below.refl _ _ | refine Below.setCell ?_ (by first | (simp; done) | omega | (simp; omega)) _ | refine below_drewN ?_ _ | refine Below.drew ?_ | refine Below.alloc ?_ (by first | (simp; done) | omega | (simp; omega)) _)
  by_cases h2 : lx = 0
  · subst h2
    obtain rfl : 4 = e := by rw [← HE.out]; unfold tabChk; simp
    clear HE
    go_enter Try.func45, Try.ntmps45
    go_wp2
    go_ret
    refine ⟨rfl, ?_⟩
    repeat (first | with_reducible exact Below.refl _ _ | ((with_reducible refine Below.setCell ?_ ?_ _); rotate_left; (· first | (simp; done) | omega | (simp; omega))) | with_reducible refine below_drewN ?_ _ | with_reducible refine Below.drew ?_ | ((with_reducible refine Below.alloc ?_ ?_ _); rotate_left; (· first | (simp; done) | omega | (simp; omega))) | exact Below.refl _ _ | refine Below.setCell ?_ (by first | (simp; done) | omega | (simp; omega)) _ | refine below_drewN ?_ _ | refine Below.drew ?_ | refine Below.alloc ?_ (by first | (simp; done) | omega | (simp; omega)) _)
  by_cases h3 : lx = ly
  · subst h3
    replace HE : Hid ((if risB xs lx = true then 0 else 4) = e) := (by rw [← HE.out]; unfold tabChk; rw [if_neg h1, if_neg (show ¬ (lx = 0 ∨ lx ≠ lx) by omega)] : (if risB xs lx = true then 0 else 4) = e)
    have d1 : decide (64 < lx) = false := decide_eq_false h1
    have d2 : (lx == 0) = false := by simpa using h2
    have hp : 0 < lx := by omega
    obtain ⟨b, off, rfl, -, -, -, hcell, hwf⟩ := HX.out.pos hp
    have HC := Lib.hid hcell
    have HW := Lib.hid hwf
    have hb : b < w.heap.size := by have := World.block_lt_of_cell? _ _ (hcell 0 (by omega)); simpa using this
    clear hcell hwf h2
    go_enter Try.func45, Try.ntmps45
    go_wp2
    go_loopw [3] (fun i wr => ChkRel w (.slice (some ⟨b, off, none⟩) lx cx) lx xs i wr) (fun i _ => lx - (intOf i).toNat)
    case atStart => exact chkRel_mk 1 (by omega) (by omega) rfl (by simp [risB] : risB xs 1 = true) (by repeat (first | with_reducible exact Below.refl _ _ | ((with_reducible refine Below.setCell ?_ ?_ _); rotate_left; (· first | (simp; done) | omega | (simp; omega))) | with_reducible refine below_drewN ?_ _ | with_reducible refine Below.drew ?_ | ((with_reducible refine Below.alloc ?_ ?_ _); rotate_left; (· first | (simp; done) | omega | (simp; omega))) | exact Below.refl _ _ | refine Below.setCell ?_ (by first | (simp; done) | omega | (simp; omega)) _ | refine below_drewN ?_ _ | refine Below.drew ?_ | refine Below.alloc ?_ (by first | (simp; done) | omega | (simp; omega)) _)) (by simp) (by go_simp)
    case round =>
      obtain ⟨k, hk1, hk, rfl, hris, hB, hsz, c0⟩ := hrel
      by_cases hlt : k < lx
      · have x1 := cell_later hB (HC.out k (by omega))
        have x0 := cell_later hB (HC.out (k - 1) (by omega))
        have v1 := bounds_i32 (HW.out k)
        have v0 := bounds_i32 (HW.out (k - 1))
        have hb2 : b < wr.heap.size := by omega
        have i1 : IntKind.i64.wrap ((k : Int) - 1) = (k : Int) - 1 := IntWalk.i64_in _ (by omega)
        have i2 : 0 ≤ (k : Int) - 1 := by omega
        have i3 : ((k : Int) - 1).toNat = k - 1 := by omega
        have hd : risB xs (k + 1) = decide (xs.getD (k - 1) 0 < xs.getD k 0) := by simp only [risB, hris.out, Bool.true_and]; rw [show (k == 0) = false by simp; omega, Bool.false_or]
        have HD := Lib.hid hd
        clear hd
        generalize xs.getD k 0 = p at *
        generalize xs.getD (k - 1) 0 = q at *
        by_cases hpq : q < p
        · have d5 : decide (p ≤ q) = false := decide_eq_false (by omega)
          go_wp2
          go_quiet (fail)
          go_wp2
          go_roundw
          case rel => exact chkRel_mk (k + 1) (by omega) (by omega) (by go_num) (by have := HD.out; rw [this]; exact decide_eq_true hpq : risB xs (k + 1) = true) (by repeat (first | with_reducible exact Below.refl _ _ | with_reducible exact hB | ((with_reducible refine Below.setCell ?_ ?_ _); rotate_left; (· first | (simp; done) | omega | (simp; omega))) | with_reducible refine below_drewN ?_ _ | with_reducible refine Below.drew ?_ | ((with_reducible refine Below.alloc ?_ ?_ _); rotate_left; (· first | (simp; done) | omega | (simp; omega))) | exact Below.refl _ _ | exact hB | refine Below.setCell ?_ (by first | (simp; done) | omega | (simp; omega)) _ | refine below_drewN ?_ _ | refine Below.drew ?_ | refine Below.alloc ?_ (by first | (simp; done) | omega | (simp; omega)) _)) (by simp; omega) (by go_simp)
          case measure => simp [intOf]; omega
        · have d5 : decide (p ≤ q) = true := decide_eq_true (by omega)
          obtain rfl : 4 = e := by
            have h5 : risB xs (k + 1) = false := by rw [HD.out]; exact decide_eq_false hpq
            rw [← HE.out, risB_false h5 (by omega : k + 1 ≤ lx)]; rfl
          clear HE
          go_wp2
          go_quiet (fail)
          go_wp2
          go_ret
          refine ⟨rfl, ?_⟩
          repeat (first | with_reducible exact Below.refl _ _ | with_reducible exact hB | ((with_reducible refine Below.setCell ?_ ?_ _); rotate_left; (· first | (simp; done) | omega | (simp; omega))) | with_reducible refine below_drewN ?_ _ | with_reducible refine Below.drew ?_ | ((with_reducible refine Below.alloc ?_ ?_ _); rotate_left; (· first | (simp; done) | omega | (simp; omega))) | exact Below.refl _ _ | exact hB | refine Below.setCell ?_ (by first | (simp; done) | omega | (simp; omega)) _ | refine below_drewN ?_ _ | refine Below.drew ?_ | refine Below.alloc ?_ (by first | (simp; done) | omega | (simp; omega)) _)
      · obtain rfl : k = lx := by omega
        obtain rfl : 0 = e := by rw [← HE.out, hris.out]; rfl
        clear HE
        go_wp2
        go_ret
        refine ⟨rfl, ?_⟩
        repeat (first | with_reducible exact Below.refl _ _ | with_reducible exact hB | ((with_reducible refine Below.setCell ?_ ?_ _); rotate_left; (· first | (simp; done) | omega | (simp; omega))) | with_reducible refine below_drewN ?_ _ | with_reducible refine Below.drew ?_ | ((with_reducible refine Below.alloc ?_ ?_ _); rotate_left; (· first | (simp; done) | omega | (simp; omega))) | exact Below.refl _ _ | exact hB | refine Below.setCell ?_ (by first | (simp; done) | omega | (simp; omega)) _ | refine below_drewN ?_ _ | refine Below.drew ?_ | refine Below.alloc ?_ (by first | (simp; done) | omega | (simp; omega)) _)
  · obtain rfl : 4 = e := by rw [← HE.out]; unfold tabChk; rw [if_neg h1, if_pos (by omega)]
    clear HE
    have d1 : decide (64 < lx) = false := decide_eq_false h1
    have d2 : (lx == 0) = false := by simpa using h2
    have d3 : ((lx : Int) != (ly : Int)) = true := by simp; omega
    have d4 : ((lx : Int) == (ly : Int)) = false := by simp; omega
    go_enter Try.func45, Try.ntmps45
    go_wp2
    go_ret
    refine ⟨rfl, ?_⟩
    repeat (first | with_reducible exact Below.refl _ _ | ((with_reducible refine Below.setCell ?_ ?_ _); rotate_left; (· first | (simp; done) | omega | (simp; omega))) | with_reducible refine below_drewN ?_ _ | with_reducible refine Below.drew ?_ | ((with_reducible refine Below.alloc ?_ ?_ _); rotate_left; (· first | (simp; done) | omega | (simp; omega))) | exact Below.refl _ _ | refine Below.setCell ?_ (by first | (simp; done) | omega | (simp; omega)) _ | refine below_drewN ?_ _ | refine Below.drew ?_ | refine Below.alloc ?_ (by first | (simp; done) | omega | (simp; omega)) _)

set_option maxHeartbeats 2000000 in
theorem atClosure (bt bx b off : Nat) (lx cx : Nat) (i : Nat) (x p : Int) (w : World) (ht : w.cell? ⟨bt, 0, none⟩ = some (.slice (some ⟨b, off, none⟩) lx cx)) (hx : w.cell? ⟨bx, 0, none⟩ = some (.int .i32 x)) (hp : w.cell? ⟨b, off + i, none⟩ = some (.int .i32 p)) (hi : i < lx ∧ lx ≤ 64) :
    Calls Try.prog 48 #[.int .i64 i, .pointer (some ⟨bt, 0, none⟩), .pointer (some ⟨bx, 0, none⟩)] w fun e w' => e = .returned (.bool (decide (x < p))) ∧ ∃ m, w' = w.drewN m := by
  have i1 : (i : Int) < lx := by omega
  go_enter Try.func48, Try.ntmps48
  go_wp2
  go_quiet (fail)
  go_wp2
  go_ret
  exact ⟨rfl, _, rfl⟩

set_option maxHeartbeats 4000000 in
theorem search_any (bt bx b off : Nat) (lx cx : Nat) (xs : List Int) (x : Int) (w : World) (ht : w.cell? ⟨bt, 0, none⟩ = some (.slice (some ⟨b, off, none⟩) lx cx)) (hx : w.cell? ⟨bx, 0, none⟩ = some (.int .i32 x)) (hp : ∀ i, i < lx → w.cell? ⟨b, off + i, none⟩ = some (.int .i32 (xs.getD i 0))) (hl : lx ≤ 64) (hr : Rising lx xs) :
    Calls Try.prog 47 #[.int .i64 lx, .func (.func 48) #[] #[.pointer (some ⟨bt, 0, none⟩), .pointer (some ⟨bx, 0, none⟩)]] w fun e w' => e = .returned (.int .i64 (place xs x lx)) ∧ ∃ m, w' = w.drewN m := by
  have HP := Lib.hid hp
  have hs := place_spec hr x
  have hpl := place_le xs x lx
  have HS := Lib.hid hs
  clear hp hs hr
  generalize place xs x lx = K at *
  go_enter Try.func47, Try.ntmps47
  go_wp2
  go_loopw [5, 6] (fun i j wr => ∃ (p q m : Nat), p ≤ K ∧ K ≤ q ∧ q ≤ lx ∧ i = .int .i64 p ∧ j = .int .i64 q ∧ wr = w.drewN m) (fun i j _ => (intOf j - intOf i).toNat)
  case atStart => exact ⟨0, lx, 0, Nat.zero_le _, hpl, Nat.le_refl _, rfl, rfl, rfl⟩
  case round =>
    obtain ⟨p, q, m, h1, h2, h3, rfl, rfl, rfl⟩ := hrel
    by_cases hlt : p < q
    · have hpq : (p : Int) < q := by omega
      obtain ⟨h, hh⟩ : ∃ h : Nat, ((p : Int) + q) / 2 = h := ⟨(p + q) / 2, by omega⟩
      have HH := Lib.hid hh
      have h5 : h < lx ∧ lx ≤ 64 := ⟨by omega, hl⟩
      have h6 : p ≤ h ∧ h < q := by omega
      have c1 : (w.drewN m).cell? ⟨bt, 0, none⟩ = some (.slice (some ⟨b, off, none⟩) lx cx) := by go_simp
      have c2 : (w.drewN m).cell? ⟨bx, 0, none⟩ = some (.int .i32 x) := by go_simp
      have c3 : (w.drewN m).cell? ⟨b, off + h, none⟩ = some (.int .i32 (xs.getD h 0)) := by have := HP.out h h5.1; go_simp
      clear hh
      go_wp2_with fail
      rw [HH.out]
      have hcl := atClosure _ _ _ _ _ _ h _ _ _ c1 c2 c3 h5
      clear c1 c2 c3
      by_cases hx2 : x < xs.getD h 0
      · rw [decide_eq_true hx2] at hcl
        refine hcl.mono ?_
        rintro e1 w1 ⟨rfl, m1, rfl⟩
        clear hcl
        have h7 : K ≤ h := by
          rcases Nat.lt_or_ge h K with hlt2 | hge
          · have := HS.out.1 h hlt2; omega
          · exact hge
        go_wp2
        exact ⟨⟨p, h, m + m1, by omega, by omega, by omega, rfl, rfl, rfl⟩, by simp [intOf]; omega⟩
      · rw [decide_eq_false hx2] at hcl
        refine hcl.mono ?_
        rintro e1 w1 ⟨rfl, m1, rfl⟩
        clear hcl
        have h7 : h < K := by
          rcases Nat.lt_or_ge h K with hlt2 | hge
          · exact hlt2
          · have := HS.out.2 h hge h5.1; omega
        go_wp2
        exact ⟨⟨h + 1, q, m + m1, by omega, by omega, by omega, by go_num, rfl, rfl⟩, by simp [intOf]; omega⟩
    · obtain rfl : p = K := by omega
      go_wp2
      go_ret
      exact ⟨rfl, _, rfl⟩

def AtOk (w w' : World) : Prop := Below w.heap.size w w'
set_option maxHeartbeats 4000000 in
set_option maxRecDepth 100000 in
theorem at_no (ax : Option Addr) (lx cx : Nat) (xs : List Int) (ay : Option Addr) (ly cy : Nat) (x : Int) (w : World) (hx : RowL .i32 w ax lx cx xs) (hl : ly ≤ cy ∧ cy ≤ 9223372036854775807) (e : Int) (he : tabChk lx ly xs = e) (h0 : e ≠ 0) :
    Calls Try.prog 12 #[.agg #[.slice ax lx cx, .slice ay ly cy], .int .i32 x] w fun e' w' => e' = .returned (.tuple #[.int .i32 0, .int .i64 e]) ∧ Below w.heap.size w w' := by
  have HX := Lib.hid hx
  have HE := Lib.hid he
  have d0 : (e != 0) = true := by simpa using h0
  clear hx he h0
  go_enter Try.func12, Try.ntmps12
  go_wp2_with fail
  refine (tabCheck_any _ _ _ _ _ _ _ _ (HX.out.later (by repeat (first | with_reducible exact Below.refl _ _ | ((with_reducible refine Below.setCell ?_ ?_ _); rotate_left; (· first | (simp; done) | omega | (simp; omega))) | with_reducible refine below_drewN ?_ _ | with_reducible refine Below.drew ?_ | ((with_reducible refine Below.alloc ?_ ?_ _); rotate_left; (· first | (simp; done) | omega | (simp; omega))) | exact Below.refl _ _ | refine Below.setCell ?_ (by first | (simp; done) | omega | (simp; omega)) _ | refine below_drewN ?_ _ | refine Below.drew ?_ | refine Below.alloc ?_ (by first | (simp; done) | omega | (simp; omega)) _))) hl e HE.out).mono ?_
  rintro e1 w1 ⟨rfl, hb⟩
  go_wp2
  go_ret2
  refine ⟨rfl, ?_⟩
  repeat (first | with_reducible exact Below.refl _ _ | ((with_reducible refine Below.setCell ?_ ?_ _); rotate_left; (· first | (simp; done) | omega | (simp; omega))) | with_reducible refine below_drewN ?_ _ | with_reducible refine Below.drew ?_ | ((with_reducible refine Below.trans ?_ (Below.mono hb ?_)); rotate_left; (· first | (simp; done) | omega | (simp; omega))) | ((with_reducible refine Below.alloc ?_ ?_ _); rotate_left; (· first | (simp; done) | omega | (simp; omega))) | exact Below.refl _ _ | refine Below.setCell ?_ (by first | (simp; done) | omega | (simp; omega)) _ | refine below_drewN ?_ _ | refine Below.drew ?_ | refine Below.trans ?_ (Below.mono hb (by first | (simp; done) | omega | (simp; omega))) | refine Below.alloc ?_ (by first | (simp; done) | omega | (simp; omega)) _)
set_option maxHeartbeats 4000000 in
set_option maxRecDepth 100000 in
theorem at_yes (ax : Option Addr) (lx cx : Nat) (xs : List Int) (ay : Option Addr) (ly cy : Nat) (ys : List Int) (x : Int) (w : World) (hx : RowL .i32 w ax lx cx xs) (hy : RowL .i32 w ay ly cy ys) (hbx : -2147483648 ≤ x ∧ x ≤ 2147483647) (hok : TabOk lx ly xs) (v : Int) (hv : atI xs ys lx x = v) :
    Calls Try.prog 12 #[.agg #[.slice ax lx cx, .slice ay ly cy], .int .i32 x] w fun e' w' => e' = .returned (.tuple #[.int .i32 v, .int .i64 0]) ∧ Below w.heap.size w w' := by
  have HX := Lib.hid hx; have HV := Lib.hid hv
  have HE := Lib.hid (tabChk_ok.2 hok)
  have hl := hy.maxLen
  obtain ⟨k1, k2, rfl, hris⟩ := hok
  have HR := Lib.hid hris
  have hplace := place_le xs x lx
  have hsp := place_spec hris x
  obtain ⟨b, off, rfl, hlx, -, -, hcx, hwx⟩ := hx.pos (by omega)
  obtain ⟨c, on, rfl, hly, -, -, hcy, hwy⟩ := hy.pos (by omega)
  have hb : b < w.heap.size := by have := World.block_lt_of_cell? _ _ (hcx 0 (by omega)); simpa using this
  have hc : c < w.heap.size := by have := World.block_lt_of_cell? _ _ (hcy 0 (by omega)); simpa using this
  have HCX := Lib.hid hcx; have HCY := Lib.hid hcy; have HWX := Lib.hid hwx; have HWY := Lib.hid hwy; have HSP := Lib.hid hsp
  obtain ⟨K, hK⟩ : ∃ K, place xs x lx = K := ⟨_, rfl⟩
  have HK := Lib.hid hK
  rw [hK] at hplace
  clear hx hy hv hris hcx hcy hwx hwy hsp hK
  go_enter Try.func12, Try.ntmps12
  go_wp2_with fail
  refine (tabCheck_any _ _ _ _ _ _ _ _ (HX.out.later (by repeat (first | with_reducible exact Below.refl _ _ | ((with_reducible refine Below.setCell ?_ ?_ _); rotate_left; (· first | (simp; done) | omega | (simp; omega))) | with_reducible refine below_drewN ?_ _ | with_reducible refine Below.drew ?_ | ((with_reducible refine Below.alloc ?_ ?_ _); rotate_left; (· first | (simp; done) | omega | (simp; omega))) | exact Below.refl _ _ | refine Below.setCell ?_ (by first | (simp; done) | omega | (simp; omega)) _ | refine below_drewN ?_ _ | refine Below.drew ?_ | refine Below.alloc ?_ (by first | (simp; done) | omega | (simp; omega)) _))) hl 0 HE.out).mono ?_
  rintro e1 w1 ⟨rfl, hb1⟩
  have z1 := hb1.size
  simp at z1
  have B1 : Below w.heap.size w w1 := by repeat (first | with_reducible exact Below.refl _ _ | ((with_reducible refine Below.setCell ?_ ?_ _); rotate_left; (· first | (simp; done) | omega | (simp; omega))) | with_reducible refine below_drewN ?_ _ | with_reducible refine Below.drew ?_ | ((with_reducible refine Below.trans ?_ (Below.mono hb1 ?_)); rotate_left; (· first | (simp; done) | omega | (simp; omega))) | ((with_reducible refine Below.alloc ?_ ?_ _); rotate_left; (· first | (simp; done) | omega | (simp; omega))) | exact Below.refl _ _ | refine Below.setCell ?_ (by first | (simp; done) | omega | (simp; omega)) _ | refine below_drewN ?_ _ | refine Below.drew ?_ | refine Below.trans ?_ (Below.mono hb1 (by first | (simp; done) | omega | (simp; omega))) | refine Below.alloc ?_ (by first | (simp; done) | omega | (simp; omega)) _)
  have t0 : w1.cell? ⟨w.heap.size, 0, none⟩ = some (.slice (some ⟨b, off, none⟩) lx cx) := cell_later hb1 (by go_simp)
  have t1 : w1.cell? ⟨w.heap.size, 1, none⟩ = some (.slice (some ⟨c, on, none⟩) lx cy) := cell_later hb1 (by go_simp)
  have t2 : w1.cell? ⟨w.heap.size + 1, 0, none⟩ = some (.int .i32 x) := cell_later hb1 (by go_simp)
  clear hb1
  go_wp2_with fail
  refine (search_any _ _ _ _ _ _ _ _ _ t0 t2 (fun i hi => cell_later B1 (HCX.out i (by omega))) k2 HR.out).mono ?_
  rintro e2 w2 ⟨rfl, nd, rfl⟩
  rw [HK.out]
  rcases (by omega : K = 0 ∨ (0 < K ∧ K = lx) ∨ (0 < K ∧ K < lx)) with rfl | ⟨hk0, rfl⟩ | ⟨hk0, hk1⟩
  · obtain rfl : ys.getD 0 0 = v := by rw [← HV.out]; unfold atI; rw [HK.out, if_pos rfl]
    have y0 := cell_later B1 (HCY.out 0 (by omega))
    rw [Nat.add_zero] at y0
    clear HV HK HCX HCY
    go_wp2
    go_ret2
    refine ⟨rfl, ?_⟩
    repeat (first | with_reducible exact Below.refl _ _ | with_reducible exact B1 | ((with_reducible refine Below.setCell ?_ ?_ _); rotate_left; (· first | (simp; done) | omega | (simp; omega))) | with_reducible refine below_drewN ?_ _ | with_reducible refine Below.drew ?_ | ((with_reducible refine Below.alloc ?_ ?_ _); rotate_left; (· first | (simp; done) | omega | (simp; omega))) | exact Below.refl _ _ | exact B1 | refine Below.setCell ?_ (by first | (simp; done) | omega | (simp; omega)) _ | refine below_drewN ?_ _ | refine Below.drew ?_ | refine Below.alloc ?_ (by first | (simp; done) | omega | (simp; omega)) _)
  · obtain rfl : ys.getD (K - 1) 0 = v := by rw [← HV.out]; unfold atI; rw [HK.out, if_neg (by omega), if_pos rfl]
    have y0 := cell_later B1 (HCY.out (K - 1) (by omega))
    have i1 : IntKind.i64.wrap ((K : Int) - 1) = (K : Int) - 1 := IntWalk.i64_in _ (by omega)
    have i2 : 0 ≤ (K : Int) - 1 := by omega
    have i3 : ((K : Int) - 1).toNat = K - 1 := by omega
    have d1 : ((K : Int) == 0) = false := by simp; omega
    clear HV HK HCX HCY
    go_wp2
    go_ret2
    refine ⟨rfl, ?_⟩
    repeat (first | with_reducible exact Below.refl _ _ | with_reducible exact B1 | ((with_reducible refine Below.setCell ?_ ?_ _); rotate_left; (· first | (simp; done) | omega | (simp; omega))) | with_reducible refine below_drewN ?_ _ | with_reducible refine Below.drew ?_ | ((with_reducible refine Below.alloc ?_ ?_ _); rotate_left; (· first | (simp; done) | omega | (simp; omega))) | exact Below.refl _ _ | exact B1 | refine Below.setCell ?_ (by first | (simp; done) | omega | (simp; omega)) _ | refine below_drewN ?_ _ | refine Below.drew ?_ | refine Below.alloc ?_ (by first | (simp; done) | omega | (simp; omega)) _)
  · have hv : ys.getD (K - 1) 0 + partI (x - xs.getD (K - 1) 0) (ys.getD K 0 - ys.getD (K - 1) 0) (xs.getD K 0 - xs.getD (K - 1) 0) = v := by rw [← HV.out]; unfold atI; rw [HK.out, if_neg (by omega), if_neg (by omega)]
    have y0 := cell_later B1 (HCY.out (K - 1) (by omega))
    have y1 := cell_later B1 (HCY.out K (by omega))
    have x0 := cell_later B1 (HCX.out (K - 1) (by omega))
    have x1 := cell_later B1 (HCX.out K (by omega))
    have g1 : xs.getD (K - 1) 0 ≤ x := HSP.out.1 (K - 1) (by rw [HK.out]; omega)
    have g2 : x < xs.getD K 0 := HSP.out.2 K (by rw [HK.out]; omega) hk1
    have v0 := bounds_i32 (HWX.out (K - 1))
    have v1 := bounds_i32 (HWX.out K)
    have u0 := bounds_i32 (HWY.out (K - 1))
    have u1 := bounds_i32 (HWY.out K)
    clear HV HK HCX HCY HWX HWY HSP HR HE HX
    generalize xs.getD (K - 1) 0 = p0 at *
    generalize xs.getD K 0 = p1 at *
    generalize ys.getD (K - 1) 0 = q0 at *
    generalize ys.getD K 0 = q1 at *
    have hp := part_bd (x - p0) (q1 - q0) (p1 - p0) (by omega) (by omega) (by omega)
    have PA := fun w => part_any (x - p0) (q1 - q0) (p1 - p0) w (by omega) (by omega) (by omega)
    generalize partI (x - p0) (q1 - q0) (p1 - p0) = z at *
    subst hv
    have hvb : -2147483648 ≤ q0 + z ∧ q0 + z ≤ 2147483647 := by omega
    have HPA := Lib.hid PA
    clear PA
    have i1 : IntKind.i64.wrap ((K : Int) - 1) = (K : Int) - 1 := IntWalk.i64_in _ (by omega)
    have i2 : 0 ≤ (K : Int) - 1 := by omega
    have i3 : ((K : Int) - 1).toNat = K - 1 := by omega
    have d1 : ((K : Int) == 0) = false := by simp; omega
    have d2 : ((K : Int) == (lx : Int)) = false := by simp; omega
    go_wp2
    go_quiet (fail)
    go_wp2
    go_quiet (fail)
    go_wp2_with fail
    refine (HPA.out _).mono ?_
    rintro e3 w3 ⟨rfl, rfl⟩
    go_wp2
    go_ret2
    refine ⟨rfl, ?_⟩
    repeat (first | with_reducible exact Below.refl _ _ | with_reducible exact B1 | ((with_reducible refine Below.setCell ?_ ?_ _); rotate_left; (· first | (simp; done) | omega | (simp; omega))) | with_reducible refine below_drewN ?_ _ | with_reducible refine Below.drew ?_ | ((with_reducible refine Below.alloc ?_ ?_ _); rotate_left; (· first | (simp; done) | omega | (simp; omega))) | exact Below.refl _ _ | exact B1 | refine Below.setCell ?_ (by first | (simp; done) | omega | (simp; omega)) _ | refine below_drewN ?_ _ | refine Below.drew ?_ | refine Below.alloc ?_ (by first | (simp; done) | omega | (simp; omega)) _)

set_option maxHeartbeats 4000000 in
theorem back_no (ax : Option Addr) (lx cx : Nat) (xs : List Int) (ay : Option Addr) (ly cy : Nat) (y : Int) (w : World) (hx : RowL .i32 w ax lx cx xs) (hl : ly ≤ cy ∧ cy ≤ 9223372036854775807) (e : Int) (he : tabChk lx ly xs = e) (h0 : e ≠ 0) :
    Calls Try.prog 15 #[.agg #[.slice ax lx cx, .slice ay ly cy], .int .i32 y] w fun e' w' => e' = .returned (.tuple #[.int .i32 0, .int .i64 e]) ∧ Below w.heap.size w w' := by
  have HX := Lib.hid hx
  have HE := Lib.hid he
  have d0 : (e != 0) = true := by simpa using h0
  clear hx he h0
  go_enter Try.func15, Try.ntmps15
  go_wp2_with fail
  refine (tabCheck_any _ _ _ _ _ _ _ _ (HX.out.later (by repeat (first | with_reducible exact Below.refl _ _ | ((with_reducible refine Below.setCell ?_ ?_ _); rotate_left; (· first | (simp; done) | omega | (simp; omega))) | with_reducible refine below_drewN ?_ _ | with_reducible refine Below.drew ?_ | ((with_reducible refine Below.alloc ?_ ?_ _); rotate_left; (· first | (simp; done) | omega | (simp; omega))) | exact Below.refl _ _ | refine Below.setCell ?_ (by first | (simp; done) | omega | (simp; omega)) _ | refine below_drewN ?_ _ | refine Below.drew ?_ | refine Below.alloc ?_ (by first | (simp; done) | omega | (simp; omega)) _))) hl e HE.out).mono ?_
  rintro e1 w1 ⟨rfl, hb⟩
  go_wp2
  go_ret2
  refine ⟨rfl, ?_⟩
  repeat (first | with_reducible exact Below.refl _ _ | ((with_reducible refine Below.setCell ?_ ?_ _); rotate_left; (· first | (simp; done) | omega | (simp; omega))) | with_reducible refine below_drewN ?_ _ | with_reducible refine Below.drew ?_ | ((with_reducible refine Below.trans ?_ (Below.mono hb ?_)); rotate_left; (· first | (simp; done) | omega | (simp; omega))) | ((with_reducible refine Below.alloc ?_ ?_ _); rotate_left; (· first | (simp; done) | omega | (simp; omega))) | exact Below.refl _ _ | refine Below.setCell ?_ (by first | (simp; done) | omega | (simp; omega)) _ | refine below_drewN ?_ _ | refine Below.drew ?_ | refine Below.trans ?_ (Below.mono hb (by first | (simp; done) | omega | (simp; omega))) | refine Below.alloc ?_ (by first | (simp; done) | omega | (simp; omega)) _)
def BackRel (w : World) (v : Value) (s : Value) (ly : Nat) (ys : List Int) (i : Value) (wr : World) : Prop := ∃ k : Nat, 1 ≤ k ∧ k ≤ ly ∧ i = .int .i64 k ∧ Hid (risB ys k = true) ∧ Below w.heap.size w wr ∧ w.heap.size < wr.heap.size ∧ wr.cell? ⟨w.heap.size, 1, none⟩ = some v ∧ wr.cell? ⟨w.heap.size, 0, none⟩ = some s
theorem backRel_mk {w : World} {v s : Value} {ly : Nat} {ys : List Int} {i : Value} {wr : World} (k : Nat) (h1 : 1 ≤ k) (h2 : k ≤ ly) (h3 : i = .int .i64 k) (h4 : Hid (risB ys k = true)) (h5 : Below w.heap.size w wr) (h6 : w.heap.size < wr.heap.size) (h7 : wr.cell? ⟨w.heap.size, 1, none⟩ = some v) (h8 : wr.cell? ⟨w.heap.size, 0, none⟩ = some s) :
    BackRel w v s ly ys i wr := ⟨k, h1, h2, h3, h4, h5, h6, h7, h8⟩
set_option maxHeartbeats 4000000 in
set_option maxRecDepth 100000 in
theorem back_yes (ax : Option Addr) (lx cx : Nat) (xs : List Int) (ay : Option Addr) (ly cy : Nat) (ys : List Int) (y : Int) (w : World) (hx : RowL .i32 w ax lx cx xs) (hy : RowL .i32 w ay ly cy ys) (hby : -2147483648 ≤ y ∧ y ≤ 2147483647) (hok : TabOk lx ly xs) (v e : Int)
    (hv : v = if risB ys ly = true then atI ys xs ly y else 0) (he : e = if risB ys ly = true then 0 else 1) :
    Calls Try.prog 15 #[.agg #[.slice ax lx cx, .slice ay ly cy], .int .i32 y] w fun e' w' => e' = .returned (.tuple #[.int .i32 v, .int .i64 e]) ∧ Below w.heap.size w w' := by
  have HX := Lib.hid hx; have HY := Lib.hid hy; have HV := Lib.hid hv; have HV2 := Lib.hid he
  have HE := Lib.hid (tabChk_ok.2 hok)
  have hl := hy.maxLen
  obtain ⟨k1, k2, rfl, hris⟩ := hok
  have HR := Lib.hid hris
  obtain ⟨c, on, rfl, hly, -, -, hcy, hwy⟩ := hy.pos (by omega)
  have hc : c < w.heap.size := by have := World.block_lt_of_cell? _ _ (hcy 0 (by omega)); simpa using this
  have HCY := Lib.hid hcy; have HWY := Lib.hid hwy
  clear hx hy hv he hris hcy hwy
  go_enter Try.func15, Try.ntmps15
  go_wp2_with fail
  refine (tabCheck_any _ _ _ _ _ _ _ _ (HX.out.later (by repeat (first | with_reducible exact Below.refl _ _ | ((with_reducible refine Below.setCell ?_ ?_ _); rotate_left; (· first | (simp; done) | omega | (simp; omega))) | with_reducible refine below_drewN ?_ _ | with_reducible refine Below.drew ?_ | ((with_reducible refine Below.alloc ?_ ?_ _); rotate_left; (· first | (simp; done) | omega | (simp; omega))) | exact Below.refl _ _ | refine Below.setCell ?_ (by first | (simp; done) | omega | (simp; omega)) _ | refine below_drewN ?_ _ | refine Below.drew ?_ | refine Below.alloc ?_ (by first | (simp; done) | omega | (simp; omega)) _))) hl 0 HE.out).mono ?_
  rintro e1 w1 ⟨rfl, hb1⟩
  have z1 := hb1.size
  simp at z1
  have B1 : Below w.heap.size w w1 := by repeat (first | with_reducible exact Below.refl _ _ | ((with_reducible refine Below.setCell ?_ ?_ _); rotate_left; (· first | (simp; done) | omega | (simp; omega))) | with_reducible refine below_drewN ?_ _ | with_reducible refine Below.drew ?_ | ((with_reducible refine Below.trans ?_ (Below.mono hb1 ?_)); rotate_left; (· first | (simp; done) | omega | (simp; omega))) | ((with_reducible refine Below.alloc ?_ ?_ _); rotate_left; (· first | (simp; done) | omega | (simp; omega))) | exact Below.refl _ _ | refine Below.setCell ?_ (by first | (simp; done) | omega | (simp; omega)) _ | refine below_drewN ?_ _ | refine Below.drew ?_ | refine Below.trans ?_ (Below.mono hb1 (by first | (simp; done) | omega | (simp; omega))) | refine Below.alloc ?_ (by first | (simp; done) | omega | (simp; omega)) _)
  have t0 : w1.cell? ⟨w.heap.size, 0, none⟩ = some (.slice ax lx cx) := cell_later hb1 (by go_simp)
  have t1 : w1.cell? ⟨w.heap.size, 1, none⟩ = some (.slice (some ⟨c, on, none⟩) lx cy) := cell_later hb1 (by go_simp)
  clear hb1
  go_wp2
  go_loopw [7] (fun i wr => BackRel w (.slice (some ⟨c, on, none⟩) lx cy) (.slice ax lx cx) lx ys i wr) (fun i _ => lx - (intOf i).toNat)
  case atStart => exact backRel_mk 1 (by omega) (by omega) rfl (by simp [risB] : risB ys 1 = true) B1 (by omega) t1 t0
  case round =>
    obtain ⟨k, hk1, hk, rfl, hris, hB, hsz, c0, c1⟩ := hrel
    by_cases hlt : k < lx
    · have x1 := cell_later hB (HCY.out k (by omega))
      have x0 := cell_later hB (HCY.out (k - 1) (by omega))
      have v1 := bounds_i32 (HWY.out k)
      have v0 := bounds_i32 (HWY.out (k - 1))
      have hb2 : c < wr.heap.size := by omega
      have i1 : IntKind.i64.wrap ((k : Int) - 1) = (k : Int) - 1 := IntWalk.i64_in _ (by omega)
      have i2 : 0 ≤ (k : Int) - 1 := by omega
      have i3 : ((k : Int) - 1).toNat = k - 1 := by omega
      have hd : risB ys (k + 1) = decide (ys.getD (k - 1) 0 < ys.getD k 0) := by simp only [risB, hris.out, Bool.true_and]; rw [show (k == 0) = false by simp; omega, Bool.false_or]
      have HD := Lib.hid hd
      clear hd
      generalize ys.getD k 0 = p at *
      generalize ys.getD (k - 1) 0 = q at *
      by_cases hpq : q < p
      · have d5 : decide (p ≤ q) = false := decide_eq_false (by omega)
        go_wp2
        go_quiet (fail)
        go_wp2
        go_roundw
        case rel => exact backRel_mk (k + 1) (by omega) (by omega) (by go_num) (by have := HD.out; rw [this]; exact decide_eq_true hpq : risB ys (k + 1) = true) (by repeat (first | with_reducible exact Below.refl _ _ | with_reducible exact hB | ((with_reducible refine Below.setCell ?_ ?_ _); rotate_left; (· first | (simp; done) | omega | (simp; omega))) | with_reducible refine below_drewN ?_ _ | with_reducible refine Below.drew ?_ | ((with_reducible refine Below.alloc ?_ ?_ _); rotate_left; (· first | (simp; done) | omega | (simp; omega))) | exact Below.refl _ _ | exact hB | refine Below.setCell ?_ (by first | (simp; done) | omega | (simp; omega)) _ | refine below_drewN ?_ _ | refine Below.drew ?_ | refine Below.alloc ?_ (by first | (simp; done) | omega | (simp; omega)) _)) (by simp; omega) (by go_simp) (by go_simp)
        case measure => simp [intOf]; omega
      · have d5 : decide (p ≤ q) = true := decide_eq_true (by omega)
        have h5 : risB ys (k + 1) = false := by rw [HD.out]; exact decide_eq_false hpq
        have h6 := risB_false h5 (by omega : k + 1 ≤ lx)
        obtain rfl : v = 0 := by have := HV.out; rw [h6] at this; simpa using this
        obtain rfl : e = 1 := by have := HV2.out; rw [h6] at this; simpa using this
        clear HV HV2 h5 h6
        go_wp2
        go_quiet (fail)
        go_wp2
        go_ret2
        refine ⟨rfl, ?_⟩
        repeat (first | with_reducible exact Below.refl _ _ | with_reducible exact hB | ((with_reducible refine Below.setCell ?_ ?_ _); rotate_left; (· first | (simp; done) | omega | (simp; omega))) | with_reducible refine below_drewN ?_ _ | with_reducible refine Below.drew ?_ | ((with_reducible refine Below.alloc ?_ ?_ _); rotate_left; (· first | (simp; done) | omega | (simp; omega))) | exact Below.refl _ _ | exact hB | refine Below.setCell ?_ (by first | (simp; done) | omega | (simp; omega)) _ | refine below_drewN ?_ _ | refine Below.drew ?_ | refine Below.alloc ?_ (by first | (simp; done) | omega | (simp; omega)) _)
    · obtain rfl : k = lx := by omega
      obtain rfl : e = 0 := by have := HV2.out; rw [hris.out] at this; simpa using this
      have HV3 : Hid (atI ys xs k y = v) := (by have := HV.out; rw [hris.out] at this; simpa using this.symm : atI ys xs k y = v)
      have HOK : Hid (TabOk k k ys) := (⟨k1, k2, rfl, (risB_iff _ _).1 hris.out⟩ : TabOk k k ys)
      clear HV HV2
      go_wp2_with fail
      refine (at_yes _ _ _ _ _ _ _ _ _ _ (HY.out.later hB) (HX.out.later hB) hby HOK.out v HV3.out).mono ?_
      rintro e4 w4 ⟨rfl, hb4⟩
      go_wp2
      go_ret2
      refine ⟨rfl, ?_⟩
      repeat (first | with_reducible exact Below.refl _ _ | with_reducible exact hB | ((with_reducible refine Below.setCell ?_ ?_ _); rotate_left; (· first | (simp; done) | omega | (simp; omega))) | with_reducible refine below_drewN ?_ _ | with_reducible refine Below.drew ?_ | ((with_reducible refine Below.trans ?_ (Below.mono hb4 ?_)); rotate_left; (· first | (simp; done) | omega | (simp; omega))) | ((with_reducible refine Below.alloc ?_ ?_ _); rotate_left; (· first | (simp; done) | omega | (simp; omega))) | exact Below.refl _ _ | exact hB | refine Below.setCell ?_ (by first | (simp; done) | omega | (simp; omega)) _ | refine below_drewN ?_ _ | refine Below.drew ?_ | refine Below.trans ?_ (Below.mono hb4 (by first | (simp; done) | omega | (simp; omega))) | refine Below.alloc ?_ (by first | (simp; done) | omega | (simp; omega)) _)

end Go.Proofs.Ytglagndpholejaa
