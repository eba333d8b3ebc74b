/- slices.Sort at []int32: swaps, and sorting by insertion. -/
import Derived.Test.YtijoalaijkobpaaCells
import Derived.Test.YtijoalaijkobpaaNum
import Derived.Deep.QuietTactic
import Derived.Deep.DeepCutAuto
import Derived.RegionTactic
import Derived.OwnWalk
import Derived.Maps.RangeWalk
import Derived.Lib.Strings
import Derived.Lib.Slices
import Derived.Lib.Small
import Derived.Lib.Walk
import Derived.Lib.BitFns
namespace Go.Proofs.Ytijoalaijkobpaa
open Go.ChangeShapes Go.WideShapes Go.ChangeAt Go.RowKit
set_option linter.unusedVariables false

namespace S32
abbrev vals (xs : List Int) : List Value := xs.map (.int .i32)
def swapL (L : List Int) (i j : Nat) : List Int := (L.set i (L.getD j 0)).set j (L.getD i 0)
theorem swapL_len (L : List Int) (i j : Nat) : (swapL L i j).length = L.length := by simp [swapL]
theorem getD_set (L : List Int) (i k : Nat) (x : Int) (hi : i < L.length) : (L.set i x).getD k 0 = if k = i then x else L.getD k 0 := by
  rw [List.getD_eq_getElem?_getD, List.getElem?_set]
  by_cases h : i = k
  · subst h; simp [hi]
  · rw [if_neg h, if_neg (fun e => h e.symm), List.getD_eq_getElem?_getD]
theorem swapL_at (L : List Int) (i j k : Nat) (hi : i < L.length) (hj : j < L.length) : (swapL L i j).getD k 0 = if k = j then L.getD i 0 else if k = i then L.getD j 0 else L.getD k 0 := by
  unfold swapL
  rw [getD_set _ _ _ _ (by simpa using hj), getD_set _ _ _ _ hi]
theorem swapL_off (L : List Int) (i j k : Nat) (h1 : k ≠ i) (h2 : k ≠ j) : (swapL L i j)[k]? = L[k]? := by
  unfold swapL
  rw [List.getElem?_set_ne (fun e => h2 e.symm), List.getElem?_set_ne (fun e => h1 e.symm)]
theorem count_set (L : List Int) (i : Nat) (x y : Int) (hi : i < L.length) : (L.set i x).count y + (if L.getD i 0 = y then 1 else 0) = L.count y + (if x = y then 1 else 0) := by
  induction L generalizing i with
  | nil => simp at hi
  | cons a L ih =>
    cases i with
    | zero =>
      simp only [List.set_cons_zero, List.count_cons, List.getD_cons_zero, beq_iff_eq]; omega
    | succ i =>
      simp only [List.length_cons, Nat.add_lt_add_iff_right] at hi
      have := ih i hi
      simp only [List.set_cons_succ, List.count_cons, List.getD_cons_succ]; omega
theorem swapL_perm (L : List Int) (i j : Nat) (hi : i < L.length) (hj : j < L.length) : (swapL L i j).Perm L := by
  rw [List.perm_iff_count]
  intro y
  unfold swapL
  have h1 := count_set (L.set i (L.getD j 0)) j (L.getD i 0) y (by simpa using hj)
  have h2 := count_set L i (L.getD j 0) y hi
  rw [getD_set _ _ _ _ hi] at h1
  by_cases e : j = i
  · subst e; simp only [if_true] at h1; omega
  · rw [if_neg e] at h1; omega
/-- swaps within a range -/
inductive Sw (lo hi : Nat) (L : List Int) : List Int → Prop
  | refl : Sw lo hi L L
  | step {M : List Int} (h : Sw lo hi L M) (i j : Nat) (h1 : lo ≤ i) (h2 : i < hi) (h3 : lo ≤ j) (h4 : j < hi) : Sw lo hi L (swapL M i j)
theorem Sw.len {lo hi : Nat} {L M : List Int} (h : Sw lo hi L M) : M.length = L.length := by
  induction h with
  | refl => rfl
  | step h i j _ _ _ _ ih => rw [swapL_len, ih]
theorem Sw.off {lo hi : Nat} {L M : List Int} (h : Sw lo hi L M) (k : Nat) (hk : k < lo ∨ hi ≤ k) : M[k]? = L[k]? := by
  induction h with
  | refl => rfl
  | step h i j h1 h2 h3 h4 ih => rw [swapL_off _ _ _ _ (by omega) (by omega), ih]
theorem Sw.offD {lo hi : Nat} {L M : List Int} (h : Sw lo hi L M) (k : Nat) (hk : k < lo ∨ hi ≤ k) : M.getD k 0 = L.getD k 0 := by
  rw [List.getD_eq_getElem?_getD, h.off k hk, List.getD_eq_getElem?_getD]
theorem Sw.perm {lo hi : Nat} {L M : List Int} (h : Sw lo hi L M) (hl : hi ≤ L.length) : M.Perm L := by
  induction h with
  | refl => exact List.Perm.refl _
  | step h i j h1 h2 h3 h4 ih => exact (swapL_perm _ _ _ (by rw [h.len]; omega) (by rw [h.len]; omega)).trans ih
theorem Sw.all {lo hi : Nat} {L M : List Int} (h : Sw lo hi L M) (hl : hi ≤ L.length) (P : Int → Prop) (hP : ∀ k, lo ≤ k → k < hi → P (L.getD k 0)) : ∀ k, lo ≤ k → k < hi → P (M.getD k 0) := by
  induction h with
  | refl => exact hP
  | step h i j h1 h2 h3 h4 ih =>
    intro k k1 k2
    rw [swapL_at _ _ _ _ (by rw [h.len]; omega) (by rw [h.len]; omega)]
    split
    · exact ih i h1 h2
    · split
      · exact ih j h3 h4
      · exact ih k k1 k2
theorem Sw.trans {lo hi : Nat} {L M N : List Int} (h : Sw lo hi L M) (k : Sw lo hi M N) : Sw lo hi L N := by
  induction k with
  | refl => exact h
  | step k i j h1 h2 h3 h4 ih => exact ih.step i j h1 h2 h3 h4
theorem Sw.mono {lo hi lo' hi' : Nat} {L M : List Int} (h : Sw lo hi L M) (h1 : lo' ≤ lo) (h2 : hi ≤ hi') : Sw lo' hi' L M := by
  induction h with
  | refl => exact .refl
  | step k i j a1 a2 a3 a4 ih => exact ih.step i j (by omega) (by omega) (by omega) (by omega)
def SortedOn (L : List Int) (lo hi : Nat) : Prop := ∀ i j, lo ≤ i → i < j → j < hi → L.getD i 0 ≤ L.getD j 0
theorem vals_swap (L : List Int) (i j : Nat) : ((vals L).set i (.int .i32 (L.getD j 0))).set j (.int .i32 (L.getD i 0)) = vals (swapL L i j) := by
  simp only [vals, swapL, List.map_set]
theorem vals_swap' (L : List Int) (i j : Nat) (hi : i < L.length) (hj : j < L.length) : ((vals L).set j (.int .i32 (L.getD i 0))).set i (.int .i32 (L.getD j 0)) = vals (swapL L i j) := by
  by_cases e : i = j
  · subst e; simp [vals, swapL]
  · rw [List.set_comm _ _ (fun h => e h.symm)]; exact vals_swap L i j
theorem val_cell {w : World} {b : Nat} {L : List Int} (h : CellsAt w b (vals L)) (n : Nat) (hn : n < L.length) : w.cell? ⟨b, n, none⟩ = some (.int .i32 (L.getD n 0)) :=
  h.at_ n (by rw [vals, List.getElem?_map, List.getD_eq_getElem?_getD, List.getElem?_eq_getElem hn]; rfl)
/-- a row of numbers that is turned, and nothing else -/
structure Row (w0 w : World) (b : Nat) (L : List Int) : Prop where
  c : CellsAt w b (vals L)
  g : w0.grownBy w (some b)
theorem Row.start {w : World} {b : Nat} {L : List Int} (h : CellsAt w b (vals L)) : Row w w b L := ⟨h, World.grownBy.refl _ _⟩
theorem Row.trans {w0 w w' : World} {b : Nat} {L M : List Int} (h : Row w0 w b L) (k : Row w w' b M) : Row w0 w' b M :=
  ⟨k.c, h.g.andThen k.g (fun j e => by cases e; exact .inr rfl)⟩
theorem Row.drewN {w0 w : World} {b : Nat} {L : List Int} (h : Row w0 w b L) (n : Nat) : Row w0 (w.drewN n) b L := ⟨h.c.drewN n, ⟨h.g.os, h.g.tape, h.g.output, h.g.size, h.g.block⟩⟩
theorem Row.drew {w0 w : World} {b : Nat} {L : List Int} (h : Row w0 w b L) : Row w0 w.drew b L := ⟨h.c.drew, ⟨h.g.os, h.g.tape, h.g.output, h.g.size, h.g.block⟩⟩
theorem grown_set (w : World) (b n : Nat) (u : Value) : w.grownBy (w.setCell ⟨b, n, none⟩ u) (some b) :=
  ⟨rfl, rfl, rfl, by simp [World.setCell], fun k _ hk => heap_setCell_other w ⟨b, n, none⟩ k u (fun e => hk (by rw [e]))⟩
theorem Row.set2 {w0 w : World} {b : Nat} {L : List Int} (h : Row w0 w b L) (i j : Nat) (hi : i < L.length) (hj : j < L.length) (x y : Int) (hx : L.getD i 0 = x) (hy : L.getD j 0 = y) :
    Row w0 ((w.setCell ⟨b, i, none⟩ (.int .i32 y)).setCell ⟨b, j, none⟩ (.int .i32 x)) b (swapL L i j) := by
  subst hx hy
  refine ⟨?_, (h.g.andThen (grown_set w b i _) (fun _ e => by cases e; exact .inr rfl)).andThen (grown_set _ b j _) (fun _ e => by cases e; exact .inr rfl)⟩
  have := (h.c.set_ i (by simpa using hi) (.int .i32 (L.getD j 0))).set_ j (by simpa using hj) (.int .i32 (L.getD i 0))
  rwa [vals_swap] at this
theorem Row.set2' {w0 w : World} {b : Nat} {L : List Int} (h : Row w0 w b L) (i j : Nat) (hi : i < L.length) (hj : j < L.length) (x y : Int) (hx : L.getD i 0 = x) (hy : L.getD j 0 = y) :
    Row w0 ((w.setCell ⟨b, j, none⟩ (.int .i32 x)).setCell ⟨b, i, none⟩ (.int .i32 y)) b (swapL L i j) := by
  subst hx hy
  refine ⟨?_, (h.g.andThen (grown_set w b j _) (fun _ e => by cases e; exact .inr rfl)).andThen (grown_set _ b i _) (fun _ e => by cases e; exact .inr rfl)⟩
  have := (h.c.set_ j (by simpa using hj) (.int .i32 (L.getD i 0))).set_ i (by simpa using hi) (.int .i32 (L.getD j 0))
  rwa [vals_swap' _ _ _ hi hj] at this
end S32

namespace S32
theorem less (a b : Int) (w : World) : Calls Try.prog 49 #[.int .i32 a, .int .i32 b] w fun e w' => e = .returned (.bool (decide (a < b))) ∧ w = w' := by
  have hn : ∀ (x : Int) (w : World), Calls Try.prog 59 #[.int .i32 x] w fun e w' => e = .returned (.bool false) ∧ w = w' := by
    intro x w
    go_enter Try.func59, Try.ntmps59
    go_wp2
    go_ret
    exact ⟨ret_bool (by simp), rfl⟩
  go_enter Try.func49, Try.ntmps49
  go_wp2_with fail
  refine (hn _ _).mono ?_
  rintro e1 w1 ⟨rfl, rfl⟩
  go_wp2
  go_ret
  exact ⟨ret_bool (by simp), rfl⟩
end S32

namespace S32
/-- all but the number that is on its way -/
structure Ins (L : List Int) (lo i j : Nat) : Prop where
  a : SortedOn L lo j
  b : SortedOn L j (i + 1)
  c : ∀ p q, lo ≤ p → p < j → j < q → q ≤ i → L.getD p 0 ≤ L.getD q 0
theorem Ins.start {L : List Int} {lo i : Nat} (h : SortedOn L lo i) : Ins L lo i i := ⟨h, fun p q h1 h2 h3 => by omega, fun p q h1 h2 h3 h4 => by omega⟩
theorem Ins.swap {L : List Int} {lo i j : Nat} (h : Ins L lo i j) (hj : lo < j) (hji : j ≤ i) (hi : i < L.length) (hlt : L.getD j 0 < L.getD (j - 1) 0) : Ins (swapL L j (j - 1)) lo i (j - 1) := by
  have e : ∀ k, (swapL L j (j - 1)).getD k 0 = if k = j - 1 then L.getD j 0 else if k = j then L.getD (j - 1) 0 else L.getD k 0 := fun k => swapL_at L j (j - 1) k (by omega) (by omega)
  refine ⟨fun p q h1 h2 h3 => ?_, fun p q h1 h2 h3 => ?_, fun p q h1 h2 h3 h4 => ?_⟩
  · rw [e, e, if_neg (by omega), if_neg (by omega), if_neg (by omega), if_neg (by omega)]
    exact h.a p q h1 h2 (by omega)
  · rw [e, e]
    by_cases p1 : p = j - 1
    · rw [if_pos p1]
      by_cases q1 : q = j
      · rw [if_neg (by omega), if_pos q1]; omega
      · rw [if_neg (by omega), if_neg q1]
        exact h.b j q (Nat.le_refl _) (by omega) h3
    · rw [if_neg p1]
      by_cases p2 : p = j
      · rw [if_pos p2, if_neg (by omega), if_neg (by omega)]
        exact h.c (j - 1) q (by omega) (by omega) (by omega) (by omega)
      · rw [if_neg p2, if_neg (by omega), if_neg (by omega)]
        exact h.b p q (by omega) h2 h3
  · rw [e, e, if_neg (by omega), if_neg (by omega)]
    by_cases q1 : q = j
    · rw [if_neg (by omega), if_pos q1]; exact h.a p (j - 1) h1 (by omega) (by omega)
    · rw [if_neg (by omega), if_neg q1]; exact h.c p q h1 (by omega) (by omega) h4
theorem Ins.fin {L : List Int} {lo i j : Nat} (h : Ins L lo i j) (hj : lo ≤ j) (he : j = lo ∨ L.getD (j - 1) 0 ≤ L.getD j 0) : SortedOn L lo (i + 1) := by
  intro p q h1 h2 h3
  by_cases q1 : q < j
  · exact h.a p q h1 h2 q1
  · by_cases p1 : j ≤ p
    · exact h.b p q p1 h2 h3
    · by_cases q2 : q = j
      · subst q2
        rcases he with he | he
        · omega
        · by_cases p2 : p = q - 1
          · subst p2; exact he
          · exact Int.le_trans (h.a p (q - 1) h1 (by omega) (by omega)) he
      · exact h.c p q h1 (by omega) (by omega) (by omega)
def InsRel (w0 : World) (b lo hi : Nat) (L : List Int) (x : Value) (w : World) : Prop := ∃ (i : Nat) (M : List Int), lo < i ∧ i ≤ hi + 1 ∧ x = .int .i64 i ∧ Row w0 w b M ∧ Sw lo hi L M ∧ SortedOn M lo i
def InsRel2 (w0 : World) (b lo hi i : Nat) (L : List Int) (x : Value) (w : World) : Prop := ∃ (j : Nat) (M : List Int), lo ≤ j ∧ j ≤ i ∧ x = .int .i64 j ∧ Row w0 w b M ∧ Sw lo hi L M ∧ Ins M lo i j
def InsPost (w0 : World) (b lo hi : Nat) (L : List Int) (e : Ending) (w : World) : Prop := e = .returned (.tuple #[]) ∧ ∃ M, Row w0 w b M ∧ Sw lo hi L M ∧ SortedOn M lo hi
set_option maxHeartbeats 4000000 in
set_option maxRecDepth 100000 in
theorem insertion (b cap lo hi : Nat) (L : List Int) (w : World) (hL : L.length ≤ 64) (h : CellsAt w b (vals L)) (hlh : lo ≤ hi) (hhi : hi ≤ L.length) :
    Calls Try.prog 43 #[.slice (some ⟨b, 0, none⟩) L.length cap, .int .i64 lo, .int .i64 hi] w (InsPost w b lo hi L) := by
  have HS := Lib.hid (Row.start h)
  clear h
  go_enter Try.func43, Try.ntmps43
  go_wp2
  go_loopw [6] (fun x wr => InsRel w b lo hi L x wr) (fun x _ => hi + 1 - (intOf x).toNat)
  case atStart => exact ⟨lo + 1, L, by omega, by omega, by go_num, HS.out, .refl, fun p q h1 h2 h3 => by omega⟩
  case round =>
    obtain ⟨i, M, hi1, hi2, rfl, hR, hS, hO⟩ := hrel
    have HR := Lib.hid hR; have HSW := Lib.hid hS; have HO := Lib.hid hO
    clear hR hS hO HS
    by_cases hlt : i < hi
    · go_wp2
      go_loopw [7] (fun x wr => InsRel2 w b lo hi i L x wr) (fun x _ => (intOf x).toNat)
      case atStart => exact ⟨i, M, by omega, by omega, rfl, HR.out, HSW.out, .start HO.out⟩
      case round =>
        obtain ⟨j, M2, hj1, hj2, rfl, hR, hS, hO⟩ := hrel
        clear HR HSW HO
        have HR := Lib.hid hR; have HSW := Lib.hid hS; have HO := Lib.hid hO
        have hlen := hS.len
        clear hR hS hO
        by_cases hjl : lo < j
        · have c1 := val_cell HR.out.c j (by omega)
          have c2 := val_cell HR.out.c (j - 1) (by omega)
          obtain ⟨x, hx⟩ : ∃ x, M2.getD j 0 = x := ⟨_, rfl⟩
          obtain ⟨y, hy⟩ : ∃ y, M2.getD (j - 1) 0 = y := ⟨_, rfl⟩
          rw [hx] at c1
          rw [hy] at c2
          have HX := Lib.hid hx; have HY := Lib.hid hy
          have HLEN := Lib.hid hlen
          have hj3 : j < L.length := by omega
          have hff := HR.out.c.2.1
          have hfb := HR.out.c.lt
          clear hx hy hlen
          have g1 : IntKind.i64.wrap ((j : Int) - 1) = (j : Int) - 1 := IntWalk.i64_in _ (by omega)
          have g2 : (1 : Int) ≤ (j : Int) := by omega
          have g3 : ((j : Int) - 1).toNat = j - 1 := by omega
          have g4 : (j : Int) - 1 < (L.length : Int) := by omega
          have g5 : (j : Int) < (L.length : Int) := by omega
          have g6 : (0 : Int) ≤ (j : Int) - 1 := by omega
          by_cases hxy : x < y
          · go_wp2
            go_quiet ((go_at_call 49; exact quietL (less x y _)))
            go_wp2
            go_region
            go_wp2
            go_round
            case rel => exact ⟨j - 1, _, by omega, by omega, by first | go_num | (congr 1; omega), ((HR.out.drewN _).set2 j (j - 1) (by have := HLEN.out; omega) (by have := HLEN.out; omega) x y HX.out HY.out), HSW.out.step j (j - 1) (by omega) (by omega) (by omega) (by omega), HO.out.swap hjl hj2 (by have := HLEN.out; omega) (by rw [HX.out, HY.out]; exact hxy)⟩
            case measure => simp [intOf]; omega
          · go_wp2
            go_quiet ((go_at_call 49; exact quietL (less x y _)))
            go_wp2
            go_round
            case rel => exact ⟨i + 1, M2, by omega, by omega, by go_num, HR.out.drewN _, HSW.out, HO.out.fin (by omega) (.inr (by rw [HX.out, HY.out]; omega))⟩
            case measure => simp [intOf]; omega
        · obtain rfl : j = lo := by omega
          go_wp2
          go_region
          go_wp2
          go_round
          case rel => exact ⟨i + 1, M2, by omega, by omega, by go_num, by first | exact HR.out.drew | exact HR.out, HSW.out, HO.out.fin (by omega) (.inl rfl)⟩
          case measure => simp [intOf]; omega
    · go_wp2
      go_end0
      exact ⟨rfl, M, HR.out, HSW.out, fun p q h1 h2 h3 => HO.out p q h1 h2 (by omega)⟩
end S32

namespace S32
set_option maxHeartbeats 4000000 in
set_option maxRecDepth 100000 in
theorem len64 (x : Int) (w : World) (h0 : 0 ≤ x) (h1 : x ≤ 64) : Calls Try.prog 53 #[.int .u64 x] w fun e w' => e = .returned (.int .i64 (Lib.bitLen x.toNat)) ∧ w = w' := by
  have d1 : decide (4294967296 ≤ x) = false := by simp; omega
  have d2 : decide (65536 ≤ x) = false := by simp; omega
  have d3 : decide (256 ≤ x) = false := by simp; omega
  have d4 : x ≤ 255 := by omega
  go_enter Try.func53, Try.ntmps53
  go_wp2
  go_ret
  refine ⟨congrArg Ending.returned (congrArg (Value.int IntKind.i64) ?_), rfl⟩
  rw [Lib.len8_of x h0 (by omega)]
  have l := Lib.bitLen_le8' x h0 (by omega)
  simp only [wrap64]
  omega
theorem len (n : Nat) (w : World) (h1 : n ≤ 64) : Calls Try.prog 41 #[.int .u64 n] w fun e w' => e = .returned (.int .i64 (Lib.bitLen n : Nat)) ∧ w = w' := by
  go_enter Try.func41, Try.ntmps41
  go_wp2_with (go_at_call 53; refine (len64 n _ (by omega) (by omega)).mono ?_; rintro e w' ⟨rfl, rfl⟩)
  go_ret
  exact ⟨rfl, rfl⟩
end S32

namespace S32
set_option maxHeartbeats 4000000 in
set_option maxRecDepth 100000 in
theorem pdq12 (b cap lo hi : Nat) (lim : Int) (L : List Int) (w : World) (hL : L.length ≤ 64) (h : CellsAt w b (vals L)) (hlh : lo ≤ hi) (hhi : hi ≤ L.length) (h12 : hi - lo ≤ 12) :
    Calls Try.prog 40 #[.slice (some ⟨b, 0, none⟩) L.length cap, .int .i64 lo, .int .i64 hi, .int .i64 lim] w (InsPost w b lo hi L) := by
  have d1 : (hi : Int) - (lo : Int) ≤ 12 := by omega
  have HC := Lib.hid h
  clear h
  go_enter Try.func40, Try.ntmps40
  go_wp2
  refine wp_loop_rounds 1 ?_
  rw [rounds_succ]
  go_wp2_with fail
  refine (insertion b cap lo hi L _ hL HC.out hlh hhi).mono ?_
  rintro e1 w1 ⟨rfl, hM⟩
  go_wp2
  go_end0
  exact ⟨rfl, hM⟩
theorem sort12 (b cap : Nat) (L : List Int) (w : World) (hL : L.length ≤ 12) (h : CellsAt w b (vals L)) :
    Calls Try.prog 32 #[.slice (some ⟨b, 0, none⟩) L.length cap] w (InsPost w b 0 L.length L) := by
  have HC := Lib.hid h
  have l64 : (L.length : Int) ≤ 64 := by omega
  clear h
  go_enter Try.func32, Try.ntmps32
  go_wp2_with fail
  refine (len L.length _ (by omega)).mono ?_
  rintro e1 w1 ⟨rfl, rfl⟩
  go_wp2_with fail
  refine (pdq12 b cap 0 L.length _ L _ (by omega) HC.out (by omega) (Nat.le_refl _) (by omega)).mono ?_
  rintro e1 w1 ⟨rfl, hM⟩
  go_wp2
  go_end0
  exact ⟨rfl, hM⟩
end S32

end Go.Proofs.Ytijoalaijkobpaa
